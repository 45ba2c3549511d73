/- A part of the proof. -/
import Derived.Test.YtcplcanaonmmpaaGreatDoorZ2
set_option maxRecDepth 1000000
set_option linter.unusedVariables false
namespace Go.T9
open Go Go.AM
set_option maxHeartbeats 40000000
noncomputable section
theorem upd2 {S u A B M N : Int} (hA : A = M) (hB : B = N) (h0 : 0 ≤ A) (h1 : A ≤ 1000000000000) (h2 : 0 ≤ B) (h3 : B ≤ 1000000000000) : IntKind.i64.wrap (IntKind.i64.wrap S + IntKind.i64.wrap (u * (if IntKind.i64.wrap (B - A) > 0 then IntKind.i64.wrap (B - A) else 0))) = IntKind.i64.wrap (S + u * max 0 (N - M)) := by
  subst hA hB
  rw [i64_in (x := B - A) (by omega) (by omega), wrap_add, show (if B - A > 0 then B - A else 0) = max 0 (B - A) by split <;> omega]
def frWC (xs : List Ch) (fr to : Int) (i : Nat) : T Value := (.node (.node (.node .leaf none (.node (.node .leaf (some (.int .i64 i)) .leaf) none .leaf)) (some (.int .i64 fr)) (.node (.node (.node .leaf (some (dat 2 (xs.map cv))) .leaf) none .leaf) none .leaf)) (some (dat 2 (xs.map cv))) (.node .leaf (some (.int .i64 to)) (.node (.node (.node .leaf (some (.int .i64 xs.length)) .leaf) none .leaf) none .leaf)))
def frWA (xs : List Ch) (fr to S : Int) (i : Nat) : T Value := (.node (.node (.node (.node (.node (.node (.node .leaf (some (.int .i64 i)) .leaf) none .leaf) none .leaf) none .leaf) none .leaf) (some (.int .i64 fr)) (.node .leaf none (.node .leaf none (.node .leaf none (.node .leaf (some (dat 2 (xs.map cv))) .leaf))))) (some (dat 2 (xs.map cv))) (.node .leaf (some (.int .i64 to)) (.node (.node .leaf (some (.int .i64 (IntKind.i64.wrap S))) .leaf) none (.node .leaf none (.node .leaf none (.node .leaf (some (.int .i64 xs.length)) .leaf))))))
theorem areaW_walk (xs : List Ch) (fr to : Int) : Walk env Proofs.Tryz.f19 [dat 2 (xs.map cv), .int .i64 fr, .int .i64 to] (bothA xs fr to) := by
  refine ⟨_, _, rfl, rfl, rfl, ?_⟩
  repeat' (first
    | refine OL.op rfl ?_
    | refine OL.nil ?_
    | refine Then.normal ?_
    | refine W.seq ?_
    | refine W.region env_ok tblI_ok ?_
    | refine RL.quiet rfl rfl rfl rfl rfl rfl rfl ?_
    | refine RL.skip rfl rfl ?_
    | refine RL.read env_sym rfl rfl rfl rfl rfl rfl (by repeat' (first | exact .nil | exact .bit rfl | refine .chk ⟨_, rfl, rfl⟩ ?_)) rfl ?_
    | refine RL.alloc rfl rfl rfl rfl rfl ?_
    | refine RL.eff env_sym rfl rfl rfl rfl rfl (by repeat' (first | exact .nil | refine .bit rfl ?_ | refine .chk ⟨_, rfl, rfl⟩ ?_)) rfl rfl ?_
    | refine RL.fin rfl ?_
    | refine W.drawn env_ok tblI_ok (by kernel_rfl) rfl rfl rfl rfl ?_
    | refine W.block ?_
    | refine WR.next ?_
    | refine W.ret ?_
    | refine W.skip ?_
    | refine Then.ret ?_
    | refine Blk.normal ?_
    | refine Blk.ret ?_
    | refine Blk.out ?_
    | refine Blk.on rfl ?_
    | refine Then.exit ?_
    | refine W.exit ?_
    | refine Fin.ret rfl ?_
    | (refine OL.split rfl rfl rfl rfl rfl rfl (fun hb => ?_) (fun hb => ?_) <;> try contradiction)
    | (refine RL.split rfl rfl rfl rfl rfl rfl (fun hb => ?_) (fun hb => ?_) <;> try contradiction)
    | (refine W.cond rfl (fun hc => ?_) (fun hc => ?_) <;> try contradiction)
    | refine OL.quiet rfl (quiet_quo env_sym rfl rfl (by assumption)) rfl ?_
    | refine OL.quiet rfl (quiet_rem env_sym rfl rfl (by assumption)) rfl ?_
    | refine RL.quiet rfl rfl rfl rfl (quiet_quo env_sym rfl rfl (by assumption)) rfl rfl ?_
    | refine RL.quiet rfl rfl rfl rfl (quiet_rem env_sym rfl rfl (by assumption)) rfl rfl ?_)
  · simp only [List.length_map, decide_eq_true_eq] at hc
    exact .eq (bothA_err (by simp only [errA]; rw [if_pos (by omega)]) (by decide)) (HF2i _ _)
  have hl : xs.length ≤ 40000 := by simp only [List.length_map, decide_eq_false_iff_not] at hc; omega
  refine W.loopT (fun m F A => ∃ i : Nat, F = frWC xs fr to i ∧ A = ⟨.leaf, 0⟩ ∧ i + m = xs.length ∧ faultC (prevA xs i) (xs.drop i) = faultC none xs) ?_ (m := xs.length) ⟨0, rfl, rfl, by simp, by simp [prevA]⟩ ?_
  · rintro m F A ⟨i, rfl, rfl, hm, hfind⟩
    by_cases hlt : i < xs.length
    · obtain ⟨x, hx⟩ : ∃ x, xs[i]? = some x := ⟨xs[i], by simp [hlt]⟩
      have hn := nth_map (f := cv) hx
      have hd := drop_cons hx
      have hA0 : (0 : Int) ≤ (i : Int) := Int.natCast_nonneg i
      have hA1 : (i : Int) < ((xs.map cv).length : Int) := by simpa using hlt
      by_cases hi0 : i = 0
      · subst hi0
        have hprev : prevA xs 0 = none := rfl
        unfold frWC
        repeat' (first
    | refine OL.op rfl ?_
    | refine OL.nil ?_
    | refine Then.normal ?_
    | refine W.seq ?_
    | refine W.region env_ok tblI_ok ?_
    | refine RL.quiet rfl rfl rfl rfl rfl rfl rfl ?_
    | refine RL.skip rfl rfl ?_
    | refine RL.read env_sym rfl rfl rfl rfl rfl rfl (by repeat' (first | exact .nil | exact .bit rfl | refine .chk ⟨_, rfl, rfl⟩ ?_)) rfl ?_
    | refine RL.alloc rfl rfl rfl rfl rfl ?_
    | refine RL.eff env_sym rfl rfl rfl rfl rfl (by repeat' (first | exact .nil | refine .bit rfl ?_ | refine .chk ⟨_, rfl, rfl⟩ ?_)) rfl rfl ?_
    | refine RL.fin rfl ?_
    | refine W.drawn env_ok tblI_ok (by kernel_rfl) rfl rfl rfl rfl ?_
    | refine W.block ?_
    | refine WR.next ?_
    | refine W.ret ?_
    | refine W.skip ?_
    | refine Then.ret ?_
    | refine Blk.normal ?_
    | refine Blk.ret ?_
    | refine Blk.out ?_
    | refine Blk.on rfl ?_
    | refine Then.exit ?_
    | refine W.exit ?_
    | refine Fin.ret rfl ?_
    | (refine OL.split rfl rfl rfl rfl rfl rfl (fun hb => ?_) (fun hb => ?_) <;> try contradiction)
    | (refine RL.split rfl rfl rfl rfl rfl rfl (fun hb => ?_) (fun hb => ?_) <;> try contradiction)
    | (refine W.cond rfl (fun hc => ?_) (fun hc => ?_) <;> try (first | contradiction | (exfalso; simp only [decide_eq_false_iff_not] at hc; omega)))
    | refine OL.quiet rfl (quiet_quo env_sym rfl rfl (by assumption)) rfl ?_
    | refine OL.quiet rfl (quiet_rem env_sym rfl rfl (by assumption)) rfl ?_
    | refine RL.quiet rfl rfl rfl rfl (quiet_quo env_sym rfl rfl (by assumption)) rfl rfl ?_
    | refine RL.quiet rfl rfl rfl rfl (quiet_rem env_sym rfl rfl (by assumption)) rfl rfl ?_
    | refine OL.quiet rfl (quiet_idx env_sym rfl rfl rfl rfl rfl hA0 hA1) rfl ?_
    | refine OL.quiet rfl (quiet_load env_sym rfl hn rfl) rfl ?_)
        all_goals simp only [decide_eq_true_eq, decide_eq_false_iff_not, Bool.not_eq_true', Bool.not_eq_false', Bool.and_eq_true, Bool.and_eq_false_iff] at *
        all_goals first
          | exact .eq (bothA_err (errA_fault hl (by rw [← hfind, hd]; exact (fault_9 (by unfold ChP; omega)).symm) (by decide)) (by decide)) (HF2i _ _)
          | exact .eq (bothA_err (errA_fault hl (by rw [← hfind, hd, hprev]; exact (fault_10 (by unfold ChP; omega) (by omega)).symm) (by decide)) (by decide)) (HF2i _ _)
          | (exfalso; omega)
          | (refine ⟨m - 1, frWC xs fr to (0 + 1), ⟨.leaf, 0⟩, by omega, ⟨0 + 1, rfl, rfl, by omega, ?_⟩, Turns.ren env_gl rfl [] [(0, (dat 2 (xs.map cv))), (1, (.int .i64 fr)), (2, (.int .i64 to)), (17, (dat 2 (xs.map cv))), (18, (.int .i64 xs.length)), (19, (.int .i64 (0 + 1 : Nat)))] [] 0 rfl (by kernel_rfl) rfl ?_ .nil⟩
             · rw [← hfind, hd, prev_succ hx, hprev]; exact fault_go0 (by unfold ChP; omega)
             · (repeat' (first | exact .nil | refine .cons rfl (.hf (HFi _ _)) ?_ | refine .cons rfl (.hf (HFb _)) ?_ | refine .cons rfl (.hf (HF_chs _)) ?_ | refine .consE rfl (idx_succ (by omega)) (.hf (HFi _ _)) ?_ | refine .consE rfl (by simp) (.hf (HFi _ _)) ?_)))
      · obtain ⟨y, hy⟩ : ∃ y, xs[i - 1]? = some y := ⟨xs[i - 1]'(by omega), List.getElem?_eq_getElem (by omega)⟩
        have hw : IntKind.i64.wrap ((i : Int) - 1) = ((i - 1 : Nat) : Int) := by rw [i64_in (by omega) (by omega)]; omega
        have hn1 : nth (xs.map cv) (Int.toNat (IntKind.i64.wrap ((i : Int) - 1))) = some (cv y) := by rw [hw]; exact nth_map hy
        have hB0 : (0 : Int) ≤ IntKind.i64.wrap ((i : Int) - 1) := by rw [hw]; exact Int.natCast_nonneg _
        have hB1 : IntKind.i64.wrap ((i : Int) - 1) < ((xs.map cv).length : Int) := by rw [hw]; simp; omega
        have hprev : prevA xs i = some y.a := by simp [prevA, hi0, hy]
        unfold frWC
        repeat' (first
    | refine RL.quiet rfl rfl rfl rfl (quiet_idx env_sym rfl rfl rfl rfl rfl hB0 hB1) rfl rfl ?_
    | refine RL.read env_sym rfl rfl rfl rfl (quiet_load env_sym rfl hn1 rfl) rfl (by repeat' (first | exact .nil | exact .bit rfl | refine .chk ⟨_, quiet_load env_sym rfl hn1 rfl, rfl⟩ ?_ | refine .chk ⟨_, rfl, rfl⟩ ?_)) rfl ?_
    | refine OL.op rfl ?_
    | refine OL.nil ?_
    | refine Then.normal ?_
    | refine W.seq ?_
    | refine W.region env_ok tblI_ok ?_
    | refine RL.quiet rfl rfl rfl rfl rfl rfl rfl ?_
    | refine RL.skip rfl rfl ?_
    | refine RL.read env_sym rfl rfl rfl rfl rfl rfl (by repeat' (first | exact .nil | exact .bit rfl | refine .chk ⟨_, rfl, rfl⟩ ?_)) rfl ?_
    | refine RL.alloc rfl rfl rfl rfl rfl ?_
    | refine RL.eff env_sym rfl rfl rfl rfl rfl (by repeat' (first | exact .nil | refine .bit rfl ?_ | refine .chk ⟨_, rfl, rfl⟩ ?_)) rfl rfl ?_
    | refine RL.fin rfl ?_
    | refine W.drawn env_ok tblI_ok (by kernel_rfl) rfl rfl rfl rfl ?_
    | refine W.block ?_
    | refine WR.next ?_
    | refine W.ret ?_
    | refine W.skip ?_
    | refine Then.ret ?_
    | refine Blk.normal ?_
    | refine Blk.ret ?_
    | refine Blk.out ?_
    | refine Blk.on rfl ?_
    | refine Then.exit ?_
    | refine W.exit ?_
    | refine Fin.ret rfl ?_
    | (refine OL.split rfl rfl rfl rfl rfl rfl (fun hb => ?_) (fun hb => ?_) <;> try contradiction)
    | (refine RL.split rfl rfl rfl rfl rfl rfl (fun hb => ?_) (fun hb => ?_) <;> try contradiction)
    | (refine W.cond rfl (fun hc => ?_) (fun hc => ?_) <;> try (first | contradiction | (exfalso; simp only [decide_eq_false_iff_not] at hc; omega)))
    | refine OL.quiet rfl (quiet_quo env_sym rfl rfl (by assumption)) rfl ?_
    | refine OL.quiet rfl (quiet_rem env_sym rfl rfl (by assumption)) rfl ?_
    | refine RL.quiet rfl rfl rfl rfl (quiet_quo env_sym rfl rfl (by assumption)) rfl rfl ?_
    | refine RL.quiet rfl rfl rfl rfl (quiet_rem env_sym rfl rfl (by assumption)) rfl rfl ?_
    | refine OL.quiet rfl (quiet_idx env_sym rfl rfl rfl rfl rfl hA0 hA1) rfl ?_
    | refine OL.quiet rfl (quiet_load env_sym rfl hn rfl) rfl ?_)
        all_goals simp only [decide_eq_true_eq, decide_eq_false_iff_not, Bool.not_eq_true', Bool.not_eq_false', Bool.and_eq_true, Bool.and_eq_false_iff] at *
        all_goals first
          | exact .eq (bothA_err (errA_fault hl (by rw [← hfind, hd]; exact (fault_9 (by unfold ChP; omega)).symm) (by decide)) (by decide)) (HF2i _ _)
          | exact .eq (bothA_err (errA_fault hl (by rw [← hfind, hd, hprev]; exact (fault_10 (by unfold ChP; omega) (by omega)).symm) (by decide)) (by decide)) (HF2i _ _)
          | (exfalso; omega)
          | (refine ⟨m - 1, frWC xs fr to (i + 1), ⟨.leaf, 0⟩, by omega, ⟨i + 1, rfl, rfl, by omega, ?_⟩, Turns.ren env_gl rfl [] [(0, (dat 2 (xs.map cv))), (1, (.int .i64 fr)), (2, (.int .i64 to)), (17, (dat 2 (xs.map cv))), (18, (.int .i64 xs.length)), (19, (.int .i64 (i + 1 : Nat)))] [] 0 rfl (by kernel_rfl) rfl ?_ .nil⟩
             · rw [← hfind, hd, prev_succ hx, hprev]; exact fault_go (by unfold ChP; omega) (by omega)
             · (repeat' (first | exact .nil | refine .cons rfl (.hf (HFi _ _)) ?_ | refine .cons rfl (.hf (HFb _)) ?_ | refine .cons rfl (.hf (HF_chs _)) ?_ | refine .consE rfl (idx_succ (by omega)) (.hf (HFi _ _)) ?_ | refine .consE rfl (by simp) (.hf (HFi _ _)) ?_)))
    · have hd : xs.drop i = [] := List.drop_eq_nil_of_le (by omega)
      have hf0 : faultC none xs = 0 := by rw [← hfind, hd]; cases prevA xs i <;> rfl
      unfold frWC
      by_cases hr : rangeA fr to
      · have hr' := hr
        unfold rangeA at hr'
        have hok := fault_all none xs hf0
        repeat' (first
    | refine OL.op rfl ?_
    | refine OL.nil ?_
    | refine Then.normal ?_
    | refine W.seq ?_
    | refine W.region env_ok tbl0_ok ?_
    | refine RL.quiet rfl rfl rfl rfl rfl rfl rfl ?_
    | refine RL.skip rfl rfl ?_
    | refine RL.read env_sym rfl rfl rfl rfl rfl rfl (by repeat' (first | exact .nil | exact .bit rfl | refine .chk ⟨_, rfl, rfl⟩ ?_)) rfl ?_
    | refine RL.alloc rfl rfl rfl rfl rfl ?_
    | refine RL.eff env_sym rfl rfl rfl rfl rfl (by repeat' (first | exact .nil | refine .bit rfl ?_ | refine .chk ⟨_, rfl, rfl⟩ ?_)) rfl rfl ?_
    | refine RL.fin rfl ?_
    | refine W.drawn env_ok tbl0_ok (by kernel_rfl) rfl rfl rfl rfl ?_
    | refine W.block ?_
    | refine WR.next ?_
    | refine W.ret ?_
    | refine W.skip ?_
    | refine Then.ret ?_
    | refine Blk.normal ?_
    | refine Blk.ret ?_
    | refine Blk.out ?_
    | refine Blk.on rfl ?_
    | refine Then.exit ?_
    | refine W.exit ?_
    | refine Fin.ret rfl ?_
    | (refine OL.split rfl rfl rfl rfl rfl rfl (fun hb => ?_) (fun hb => ?_) <;> try contradiction)
    | (refine RL.split rfl rfl rfl rfl rfl rfl (fun hb => ?_) (fun hb => ?_) <;> try contradiction)
    | (refine W.cond rfl (fun hc => ?_) (fun hc => ?_) <;> try (first | contradiction | (exfalso; simp only [decide_eq_true_eq] at hc; omega)))
    | refine OL.quiet rfl (quiet_quo env_sym rfl rfl (by assumption)) rfl ?_
    | refine OL.quiet rfl (quiet_rem env_sym rfl rfl (by assumption)) rfl ?_
    | refine RL.quiet rfl rfl rfl rfl (quiet_quo env_sym rfl rfl (by assumption)) rfl rfl ?_
    | refine RL.quiet rfl rfl rfl rfl (quiet_rem env_sym rfl rfl (by assumption)) rfl rfl ?_)
        all_goals first
          | (exfalso; simp only [decide_eq_true_eq, decide_eq_false_iff_not] at *; omega)
          | skip
        rw [← bothA_ok (errA_ok hl hf0 hr)]
        have h0 := hr'.1
        have h1 := hr'.2.1
        have h2 := hr'.2.2
        refine W.loopT (fun m F A => ∃ (i : Nat) (S : Int), F = frWA xs fr to S i ∧ A = ⟨.leaf, 0⟩ ∧ i + m = xs.length ∧ S + areaS fr to (xs.drop i) = areaS fr to xs) ?_ (m := xs.length) ⟨0, 0, rfl, rfl, by simp, by simp⟩ ?_
        · rintro m F A ⟨i, S, rfl, rfl, hm, hS⟩
          by_cases hlt : i < xs.length
          · obtain ⟨x, hx⟩ : ∃ x, xs[i]? = some x := ⟨xs[i], by simp [hlt]⟩
            have hxP : ChP x := hok x (List.mem_of_getElem? hx)
            have hn := nth_map (f := cv) hx
            have hd := drop_cons hx
            have hw : IntKind.i64.wrap ((i : Int) + 1) = ((i + 1 : Nat) : Int) := by rw [i64_in (by omega) (by omega)]; rfl
            have hA0 : (0 : Int) ≤ (i : Int) := Int.natCast_nonneg i
            have hA1 : (i : Int) < ((xs.map cv).length : Int) := by simpa using hlt
            by_cases hlt2 : i + 1 < xs.length
            · obtain ⟨y, hy⟩ : ∃ y, xs[i + 1]? = some y := ⟨xs[i + 1], by simp [hlt2]⟩
              have hyP : ChP y := hok y (List.mem_of_getElem? hy)
              have hn1 : nth (xs.map cv) (Int.toNat (IntKind.i64.wrap ((i : Int) + 1))) = some (cv y) := by rw [hw]; exact nth_map hy
              have hd1 := drop_cons hy
              have hB0 : (0 : Int) ≤ IntKind.i64.wrap ((i : Int) + 1) := by rw [hw]; exact Int.natCast_nonneg _
              have hB1 : IntKind.i64.wrap ((i : Int) + 1) < ((xs.map cv).length : Int) := by rw [hw]; simp; omega
              unfold frWA
              repeat' (first
    | refine OL.op rfl ?_
    | refine OL.nil ?_
    | refine Then.normal ?_
    | refine W.seq ?_
    | refine W.region env_ok tbl0_ok ?_
    | refine RL.quiet rfl rfl rfl rfl rfl rfl rfl ?_
    | refine RL.skip rfl rfl ?_
    | refine RL.read env_sym rfl rfl rfl rfl rfl rfl (by repeat' (first | exact .nil | exact .bit rfl | refine .chk ⟨_, rfl, rfl⟩ ?_)) rfl ?_
    | refine RL.alloc rfl rfl rfl rfl rfl ?_
    | refine RL.eff env_sym rfl rfl rfl rfl rfl (by repeat' (first | exact .nil | refine .bit rfl ?_ | refine .chk ⟨_, rfl, rfl⟩ ?_)) rfl rfl ?_
    | refine RL.fin rfl ?_
    | refine W.drawn env_ok tbl0_ok (by kernel_rfl) rfl rfl rfl rfl ?_
    | refine W.block ?_
    | refine WR.next ?_
    | refine W.ret ?_
    | refine W.skip ?_
    | refine Then.ret ?_
    | refine Blk.normal ?_
    | refine Blk.ret ?_
    | refine Blk.out ?_
    | refine Blk.on rfl ?_
    | refine Then.exit ?_
    | refine W.exit ?_
    | refine Fin.ret rfl ?_
    | (refine OL.split rfl rfl rfl rfl rfl rfl (fun hb => ?_) (fun hb => ?_) <;> try contradiction)
    | (refine RL.split rfl rfl rfl rfl rfl rfl (fun hb => ?_) (fun hb => ?_) <;> try contradiction)
    | (refine W.cond rfl (fun hc => ?_) (fun hc => ?_) <;> try (first | contradiction | (exfalso; simp [hw] at hc; omega)))
    | refine OL.quiet rfl (quiet_quo env_sym rfl rfl (by assumption)) rfl ?_
    | refine OL.quiet rfl (quiet_rem env_sym rfl rfl (by assumption)) rfl ?_
    | refine RL.quiet rfl rfl rfl rfl (quiet_quo env_sym rfl rfl (by assumption)) rfl rfl ?_
    | refine RL.quiet rfl rfl rfl rfl (quiet_rem env_sym rfl rfl (by assumption)) rfl rfl ?_
    | refine OL.quiet rfl (quiet_idx env_sym rfl rfl rfl rfl rfl hA0 hA1) rfl ?_
    | refine OL.quiet rfl (quiet_idx env_sym rfl rfl rfl rfl rfl hB0 hB1) rfl ?_
    | refine OL.quiet rfl (quiet_load env_sym rfl hn rfl) rfl ?_
    | refine OL.quiet rfl (quiet_load env_sym rfl hn1 rfl) rfl ?_)
              all_goals
                (refine ⟨m - 1, frWA xs fr to (S + x.u * max 0 (nextA to (xs.drop (i + 1)) - max x.a fr)) (i + 1), ⟨.leaf, 0⟩, by omega, ⟨i + 1, _, rfl, rfl, by omega, ?_⟩, Turns.ren env_gl rfl [] [(0, (dat 2 (xs.map cv))), (1, (.int .i64 fr)), (2, (.int .i64 to)), (10, (.int .i64 (IntKind.i64.wrap (S + x.u * max 0 (nextA to (xs.drop (i + 1)) - max x.a fr))))), (61, (dat 2 (xs.map cv))), (62, (.int .i64 xs.length)), (63, (.int .i64 (i + 1 : Nat)))] [] 0 rfl (by kernel_rfl) rfl ?_ .nil⟩
                 · rw [← hS, hd]; simp only [areaS]; omega
                 · repeat' (first | exact .nil | refine .cons rfl (.hf (HF_chs _)) ?_ | refine .consE rfl (congrArg (Value.int .i64) (upd2 (maxI _ _) ((minI _ _).trans (by rw [hd1]; rfl)) (by unfold ChP at hxP hyP; split <;> omega) (by unfold ChP at hxP hyP; split <;> omega) (by unfold ChP at hxP hyP; split <;> omega) (by unfold ChP at hxP hyP; split <;> omega))) (.hf (HFi _ _)) ?_ | refine .consE rfl (congrArg (Value.int .i64) (upd0 (maxI _ _) ((minI _ _).trans (by rw [hd1]; rfl)) (by simpa using hc))) (.hf (HFi _ _)) ?_ | refine .consE rfl (idx_succ (by omega)) (.hf (HFi _ _)) ?_ | refine .cons rfl (.hf (HFi _ _)) ?_))
            · have hd1 : xs.drop (i + 1) = [] := List.drop_eq_nil_of_le (by omega)
              unfold frWA
              repeat' (first
    | refine OL.op rfl ?_
    | refine OL.nil ?_
    | refine Then.normal ?_
    | refine W.seq ?_
    | refine W.region env_ok tbl0_ok ?_
    | refine RL.quiet rfl rfl rfl rfl rfl rfl rfl ?_
    | refine RL.skip rfl rfl ?_
    | refine RL.read env_sym rfl rfl rfl rfl rfl rfl (by repeat' (first | exact .nil | exact .bit rfl | refine .chk ⟨_, rfl, rfl⟩ ?_)) rfl ?_
    | refine RL.alloc rfl rfl rfl rfl rfl ?_
    | refine RL.eff env_sym rfl rfl rfl rfl rfl (by repeat' (first | exact .nil | refine .bit rfl ?_ | refine .chk ⟨_, rfl, rfl⟩ ?_)) rfl rfl ?_
    | refine RL.fin rfl ?_
    | refine W.drawn env_ok tbl0_ok (by kernel_rfl) rfl rfl rfl rfl ?_
    | refine W.block ?_
    | refine WR.next ?_
    | refine W.ret ?_
    | refine W.skip ?_
    | refine Then.ret ?_
    | refine Blk.normal ?_
    | refine Blk.ret ?_
    | refine Blk.out ?_
    | refine Blk.on rfl ?_
    | refine Then.exit ?_
    | refine W.exit ?_
    | refine Fin.ret rfl ?_
    | (refine OL.split rfl rfl rfl rfl rfl rfl (fun hb => ?_) (fun hb => ?_) <;> try contradiction)
    | (refine RL.split rfl rfl rfl rfl rfl rfl (fun hb => ?_) (fun hb => ?_) <;> try contradiction)
    | (refine W.cond rfl (fun hc => ?_) (fun hc => ?_) <;> try (first | contradiction | (exfalso; simp [hw] at hc; omega)))
    | refine OL.quiet rfl (quiet_quo env_sym rfl rfl (by assumption)) rfl ?_
    | refine OL.quiet rfl (quiet_rem env_sym rfl rfl (by assumption)) rfl ?_
    | refine RL.quiet rfl rfl rfl rfl (quiet_quo env_sym rfl rfl (by assumption)) rfl rfl ?_
    | refine RL.quiet rfl rfl rfl rfl (quiet_rem env_sym rfl rfl (by assumption)) rfl rfl ?_
    | refine OL.quiet rfl (quiet_idx env_sym rfl rfl rfl rfl rfl hA0 hA1) rfl ?_
    | refine OL.quiet rfl (quiet_load env_sym rfl hn rfl) rfl ?_)
              all_goals
                (refine ⟨m - 1, frWA xs fr to (S + x.u * max 0 (nextA to (xs.drop (i + 1)) - max x.a fr)) (i + 1), ⟨.leaf, 0⟩, by omega, ⟨i + 1, _, rfl, rfl, by omega, ?_⟩, Turns.ren env_gl rfl [] [(0, (dat 2 (xs.map cv))), (1, (.int .i64 fr)), (2, (.int .i64 to)), (10, (.int .i64 (IntKind.i64.wrap (S + x.u * max 0 (nextA to (xs.drop (i + 1)) - max x.a fr))))), (61, (dat 2 (xs.map cv))), (62, (.int .i64 xs.length)), (63, (.int .i64 (i + 1 : Nat)))] [] 0 rfl (by kernel_rfl) rfl ?_ .nil⟩
                 · rw [← hS, hd]; simp only [areaS]; omega
                 · repeat' (first | exact .nil | refine .cons rfl (.hf (HF_chs _)) ?_ | refine .consE rfl (congrArg (Value.int .i64) (upd2 (maxI _ _) (by rw [hd1]; rfl) (by unfold ChP at hxP; first | omega | (split <;> omega)) (by unfold ChP at hxP; first | omega | (split <;> omega)) (by unfold ChP at hxP; first | omega | (split <;> omega)) (by unfold ChP at hxP; first | omega | (split <;> omega)))) (.hf (HFi _ _)) ?_ | refine .consE rfl (congrArg (Value.int .i64) (upd0 (A := if fr > x.a then fr else x.a) (B := to) (maxI _ _) (by rw [hd1]; rfl) (by simpa using hc))) (.hf (HFi _ _)) ?_ | refine .consE rfl (idx_succ (by omega)) (.hf (HFi _ _)) ?_ | refine .cons rfl (.hf (HFi _ _)) ?_))
          · have hd : xs.drop i = [] := List.drop_eq_nil_of_le (by omega)
            unfold frWA
            repeat' (first
    | refine OL.op rfl ?_
    | refine OL.nil ?_
    | refine Then.normal ?_
    | refine W.seq ?_
    | refine W.region env_ok tbl0_ok ?_
    | refine RL.quiet rfl rfl rfl rfl rfl rfl rfl ?_
    | refine RL.skip rfl rfl ?_
    | refine RL.read env_sym rfl rfl rfl rfl rfl rfl (by repeat' (first | exact .nil | exact .bit rfl | refine .chk ⟨_, rfl, rfl⟩ ?_)) rfl ?_
    | refine RL.alloc rfl rfl rfl rfl rfl ?_
    | refine RL.eff env_sym rfl rfl rfl rfl rfl (by repeat' (first | exact .nil | refine .bit rfl ?_ | refine .chk ⟨_, rfl, rfl⟩ ?_)) rfl rfl ?_
    | refine RL.fin rfl ?_
    | refine W.drawn env_ok tbl0_ok (by kernel_rfl) rfl rfl rfl rfl ?_
    | refine W.block ?_
    | refine WR.next ?_
    | refine W.ret ?_
    | refine W.skip ?_
    | refine Then.ret ?_
    | refine Blk.normal ?_
    | refine Blk.ret ?_
    | refine Blk.out ?_
    | refine Blk.on rfl ?_
    | refine Then.exit ?_
    | refine W.exit ?_
    | refine Fin.ret rfl ?_
    | (refine OL.split rfl rfl rfl rfl rfl rfl (fun hb => ?_) (fun hb => ?_) <;> try contradiction)
    | (refine RL.split rfl rfl rfl rfl rfl rfl (fun hb => ?_) (fun hb => ?_) <;> try contradiction)
    | (refine W.cond rfl (fun hc => ?_) (fun hc => ?_) <;> try (first | contradiction | (exfalso; simp at hc; omega)))
    | refine OL.quiet rfl (quiet_quo env_sym rfl rfl (by assumption)) rfl ?_
    | refine OL.quiet rfl (quiet_rem env_sym rfl rfl (by assumption)) rfl ?_
    | refine RL.quiet rfl rfl rfl rfl (quiet_quo env_sym rfl rfl (by assumption)) rfl rfl ?_
    | refine RL.quiet rfl rfl rfl rfl (quiet_rem env_sym rfl rfl (by assumption)) rfl rfl ?_)
            refine .eq ?_ (HF2i _ _)
            rw [← hS, hd]; simp [areaS]
        · refine Turns.ren env_gl rfl [] [(0, (dat 2 (xs.map cv))), (1, (.int .i64 fr)), (2, (.int .i64 to)), (10, (.int .i64 (IntKind.i64.wrap 0))), (61, (dat 2 (xs.map cv))), (62, (.int .i64 xs.length)), (63, (.int .i64 (0 : Nat)))] [] 0 rfl (by kernel_rfl) rfl ?_ .nil
          repeat' (first | exact .nil | refine .cons rfl (.hf (HF_chs _)) ?_ | refine .cons rfl (.hf (HFi _ _)) ?_ | refine .consE rfl (by simp) (.hf (HFi _ _)) ?_ | refine .consE rfl (by rw [show IntKind.i64.wrap 0 = 0 by decide]) (.hf (HFi _ _)) ?_)
      · have hr' := hr
        unfold rangeA at hr'
        repeat' (first
    | refine OL.op rfl ?_
    | refine OL.nil ?_
    | refine Then.normal ?_
    | refine W.seq ?_
    | refine W.region env_ok tbl0_ok ?_
    | refine RL.quiet rfl rfl rfl rfl rfl rfl rfl ?_
    | refine RL.skip rfl rfl ?_
    | refine RL.read env_sym rfl rfl rfl rfl rfl rfl (by repeat' (first | exact .nil | exact .bit rfl | refine .chk ⟨_, rfl, rfl⟩ ?_)) rfl ?_
    | refine RL.alloc rfl rfl rfl rfl rfl ?_
    | refine RL.eff env_sym rfl rfl rfl rfl rfl (by repeat' (first | exact .nil | refine .bit rfl ?_ | refine .chk ⟨_, rfl, rfl⟩ ?_)) rfl rfl ?_
    | refine RL.fin rfl ?_
    | refine W.drawn env_ok tbl0_ok (by kernel_rfl) rfl rfl rfl rfl ?_
    | refine W.block ?_
    | refine WR.next ?_
    | refine W.ret ?_
    | refine W.skip ?_
    | refine Then.ret ?_
    | refine Blk.normal ?_
    | refine Blk.ret ?_
    | refine Blk.out ?_
    | refine Blk.on rfl ?_
    | refine Then.exit ?_
    | refine W.exit ?_
    | refine Fin.ret rfl ?_
    | (refine OL.split rfl rfl rfl rfl rfl rfl (fun hb => ?_) (fun hb => ?_) <;> try contradiction)
    | (refine RL.split rfl rfl rfl rfl rfl rfl (fun hb => ?_) (fun hb => ?_) <;> try contradiction)
    | (refine W.cond rfl (fun hc => ?_) (fun hc => ?_) <;> try (first | contradiction | (exfalso; simp only [decide_eq_true_eq] at hc; omega)))
    | refine OL.quiet rfl (quiet_quo env_sym rfl rfl (by assumption)) rfl ?_
    | refine OL.quiet rfl (quiet_rem env_sym rfl rfl (by assumption)) rfl ?_
    | refine RL.quiet rfl rfl rfl rfl (quiet_quo env_sym rfl rfl (by assumption)) rfl rfl ?_
    | refine RL.quiet rfl rfl rfl rfl (quiet_rem env_sym rfl rfl (by assumption)) rfl rfl ?_)
        all_goals first
          | exact .eq (bothA_err (errA_range hl hf0 hr) (by decide)) (HF2i _ _)
          | (exfalso; simp only [decide_eq_true_eq, decide_eq_false_iff_not] at *; omega)
  · refine Turns.ren env_gl rfl [] [(0, (dat 2 (xs.map cv))), (1, (.int .i64 fr)), (2, (.int .i64 to)), (17, (dat 2 (xs.map cv))), (18, (.int .i64 xs.length)), (19, (.int .i64 (0 : Nat)))] [] 0 rfl (by kernel_rfl) rfl ?_ .nil
    (repeat' (first | exact .nil | refine .cons rfl (.hf (HFi _ _)) ?_ | refine .cons rfl (.hf (HFb _)) ?_ | refine .cons rfl (.hf (HF_chs _)) ?_ | refine .consE rfl (idx_succ (by omega)) (.hf (HFi _ _)) ?_ | refine .consE rfl (by simp) (.hf (HFi _ _)) ?_))
end
end Go.T9
