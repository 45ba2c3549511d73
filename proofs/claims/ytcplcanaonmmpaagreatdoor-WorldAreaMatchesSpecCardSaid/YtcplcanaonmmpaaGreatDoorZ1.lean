/- A part of the proof. -/
import Derived.Test.YtcplcanaonmmpaaGreatDoorX1
import Derived.Test.YtcplcanaonmmpaaGreatDoorC
set_option maxRecDepth 1000000
set_option linter.unusedVariables false
namespace Go.T9
open Go Go.AM
set_option maxHeartbeats 40000000
noncomputable section
/-- A change: from a time on, so many. -/
structure Ch where
  (a u : Int)
def cv (x : Ch) : Value := .agg ⟨[.int .i64 x.a, .int .i64 x.u]⟩
theorem HF_cv (x : Ch) : HF (cv x) := .agg (HF.cons (HFi _ _) (HF.cons (HFi _ _) HF.nil))
theorem HF_chs (xs : List Ch) : HF (dat 2 (xs.map cv)) := .dat fun y hy => by
  obtain ⟨x, _, rfl⟩ := List.mem_map.1 hy
  exact HF_cv x
def ChP (x : Ch) : Prop := 0 ≤ x.a ∧ x.a ≤ 1000000000000 ∧ 0 ≤ x.u ∧ x.u ≤ 40000
instance (x : Ch) : Decidable (ChP x) := by unfold ChP; infer_instance
/-- What is wrong with a list of changes, the time before it told. -/
def faultC : Option Int → List Ch → Int
  | _, [] => 0
  | p, x :: l => if ChP x then (if ∃ q, p = some q ∧ x.a ≤ q then 10 else faultC (some x.a) l) else 9
def nextA (to : Int) : List Ch → Int
  | [] => to
  | y :: _ => min to y.a
/-- The area. -/
def areaS (fr to : Int) : List Ch → Int
  | [] => 0
  | x :: l => x.u * max 0 (nextA to l - max x.a fr) + areaS fr to l
theorem area_add {fr at_ to : Int} (h1 : fr ≤ at_) (h2 : at_ ≤ to) : ∀ l : List Ch, areaS fr at_ l + areaS at_ to l = areaS fr to l
  | [] => rfl
  | x :: l => by
    have ih := area_add h1 h2 l
    have e : max 0 (nextA at_ l - max x.a fr) + max 0 (nextA to l - max x.a at_) = max 0 (nextA to l - max x.a fr) := by
      cases l with
      | nil => simp only [nextA]; omega
      | cons y l => simp only [nextA]; omega
    simp only [areaS]
    rw [← e, ← ih, Int.mul_add]
    omega
/-- Sums that go round. -/
theorem wrap_add (x y : Int) : IntKind.i64.wrap (IntKind.i64.wrap x + IntKind.i64.wrap y) = IntKind.i64.wrap (x + y) := by
  have e1 : (2 : Int) ^ IntKind.i64.bits = 18446744073709551616 := by decide
  have e2 : (2 : Int) ^ (IntKind.i64.bits - 1) = 9223372036854775808 := by decide
  have e3 : IntKind.i64.signed = true := rfl
  unfold IntKind.wrap
  rw [e1, e2, e3]
  simp only [Bool.true_and, decide_eq_true_eq]
  split <;> split <;> split <;> split <;> omega
theorem wrap_wrap (x : Int) : IntKind.i64.wrap (IntKind.i64.wrap x) = IntKind.i64.wrap x := by
  have := wrap_add x 0
  simpa [show IntKind.i64.wrap 0 = 0 by decide] using this
theorem wrap_addl (x y : Int) : IntKind.i64.wrap (IntKind.i64.wrap x + y) = IntKind.i64.wrap (x + y) := by
  have := wrap_add (IntKind.i64.wrap x) y
  rw [wrap_wrap, wrap_add] at this
  have h2 := wrap_add x y
  have e1 : (2 : Int) ^ IntKind.i64.bits = 18446744073709551616 := by decide
  have e2 : (2 : Int) ^ (IntKind.i64.bits - 1) = 9223372036854775808 := by decide
  have e3 : IntKind.i64.signed = true := rfl
  unfold IntKind.wrap
  rw [e1, e2, e3]
  simp only [Bool.true_and, decide_eq_true_eq]
  split <;> split <;> split <;> omega
end
end Go.T9
set_option maxRecDepth 1000000
set_option linter.unusedVariables false
namespace Go.T9
open Go Go.AM
set_option maxHeartbeats 40000000
noncomputable section
theorem upd1 {S u A B M N : Int} (hA : A = M) (hB : B = N) (h0 : 0 ≤ A) (h1 : B ≤ 1000000000000) (h : A < B) : IntKind.i64.wrap (IntKind.i64.wrap S + IntKind.i64.wrap (IntKind.i64.wrap (B - A) * u)) = IntKind.i64.wrap (S + u * max 0 (N - M)) := by
  subst hA hB
  rw [i64_in (x := B - A) (by omega) (by omega), wrap_add, show max 0 (B - A) = B - A by omega, Int.mul_comm]
theorem upd0 {S u A B M N : Int} (hA : A = M) (hB : B = N) (h : ¬ A < B) : IntKind.i64.wrap S = IntKind.i64.wrap (S + u * max 0 (N - M)) := by
  subst hA hB
  rw [show max 0 (B - A) = 0 by omega, Int.mul_zero, Int.add_zero]
theorem maxI (a b : Int) : (if b > a then b else a) = max a b := by split <;> omega
theorem minI (a b : Int) : (if b < a then b else a) = min a b := by split <;> omega
def frAR (xs : List Ch) (fr to S : Int) (i : Nat) : T Value := (.node (.node (.node (.node .leaf (some (.int .i64 (IntKind.i64.wrap S))) .leaf) none .leaf) (some (.int .i64 fr)) (.node .leaf none (.node .leaf (some (.int .i64 xs.length)) .leaf))) (some (dat 2 (xs.map cv))) (.node (.node .leaf none (.node .leaf (some (dat 2 (xs.map cv))) .leaf)) (some (.int .i64 to)) (.node .leaf none (.node .leaf (some (.int .i64 i)) .leaf))))
theorem areaR_walk (xs : List Ch) (fr to : Int) (hl : xs.length ≤ 40000) (hok : ∀ x ∈ xs, ChP x) (h0 : 0 ≤ fr) (h1 : fr ≤ to) (h2 : to ≤ 1000000000000) : Walk env Proofs.Tryz.f47 [dat 2 (xs.map cv), .int .i64 fr, .int .i64 to] (.int .i64 (IntKind.i64.wrap (areaS fr to xs))) := by
  refine ⟨_, _, rfl, rfl, rfl, ?_⟩
  repeat' (first
    | refine OL.op rfl ?_
    | refine OL.nil ?_
    | refine Then.normal ?_
    | refine W.seq ?_
    | refine W.region env_ok tbl0_ok ?_
    | refine RL.quiet rfl rfl rfl rfl rfl rfl rfl ?_
    | refine RL.skip rfl rfl ?_
    | refine RL.read env_sym rfl rfl rfl rfl rfl rfl (by repeat' (first | exact .nil | exact .bit rfl | refine .chk ⟨_, rfl, rfl⟩ ?_)) rfl ?_
    | refine RL.alloc rfl rfl rfl rfl rfl ?_
    | refine RL.eff env_sym rfl rfl rfl rfl rfl (by repeat' (first | exact .nil | refine .bit rfl ?_ | refine .chk ⟨_, rfl, rfl⟩ ?_)) rfl rfl ?_
    | refine RL.fin rfl ?_
    | refine W.drawn env_ok tbl0_ok (by kernel_rfl) rfl rfl rfl rfl ?_
    | refine W.block ?_
    | refine WR.next ?_
    | refine W.ret ?_
    | refine W.skip ?_
    | refine Then.ret ?_
    | refine Blk.normal ?_
    | refine Blk.ret ?_
    | refine Blk.out ?_
    | refine Blk.on rfl ?_
    | refine Then.exit ?_
    | refine W.exit ?_
    | refine Fin.ret rfl ?_
    | (refine OL.split rfl rfl rfl rfl rfl rfl (fun hb => ?_) (fun hb => ?_) <;> try contradiction)
    | (refine RL.split rfl rfl rfl rfl rfl rfl (fun hb => ?_) (fun hb => ?_) <;> try contradiction)
    | (refine W.cond rfl (fun hc => ?_) (fun hc => ?_) <;> try contradiction)
    | refine OL.quiet rfl (quiet_quo env_sym rfl rfl (by assumption)) rfl ?_
    | refine OL.quiet rfl (quiet_rem env_sym rfl rfl (by assumption)) rfl ?_
    | refine RL.quiet rfl rfl rfl rfl (quiet_quo env_sym rfl rfl (by assumption)) rfl rfl ?_
    | refine RL.quiet rfl rfl rfl rfl (quiet_rem env_sym rfl rfl (by assumption)) rfl rfl ?_)
  refine W.loopT (fun m F A => ∃ (i : Nat) (S : Int), F = frAR xs fr to S i ∧ A = ⟨.leaf, 0⟩ ∧ i + m = xs.length ∧ S + areaS fr to (xs.drop i) = areaS fr to xs) ?_ (m := xs.length) ⟨0, 0, rfl, rfl, by simp, by simp⟩ ?_
  · rintro m F A ⟨i, S, rfl, rfl, hm, hS⟩
    by_cases hlt : i < xs.length
    · obtain ⟨x, hx⟩ : ∃ x, xs[i]? = some x := ⟨xs[i], by simp [hlt]⟩
      have hxP : ChP x := hok x (List.mem_of_getElem? hx)
      have hn := nth_map (f := cv) hx
      have hd := drop_cons hx
      have hw : IntKind.i64.wrap ((i : Int) + 1) = ((i + 1 : Nat) : Int) := by rw [i64_in (by omega) (by omega)]; rfl
      have hA0 : (0 : Int) ≤ (i : Int) := Int.natCast_nonneg i
      have hA1 : (i : Int) < ((xs.map cv).length : Int) := by simpa using hlt
      by_cases hlt2 : i + 1 < xs.length
      · obtain ⟨y, hy⟩ : ∃ y, xs[i + 1]? = some y := ⟨xs[i + 1], by simp [hlt2]⟩
        have hyP : ChP y := hok y (List.mem_of_getElem? hy)
        have hn1 : nth (xs.map cv) (Int.toNat (IntKind.i64.wrap ((i : Int) + 1))) = some (cv y) := by rw [hw]; exact nth_map hy
        have hd1 := drop_cons hy
        have hB0 : (0 : Int) ≤ IntKind.i64.wrap ((i : Int) + 1) := by rw [hw]; exact Int.natCast_nonneg _
        have hB1 : IntKind.i64.wrap ((i : Int) + 1) < ((xs.map cv).length : Int) := by rw [hw]; simp; omega
        unfold frAR
        repeat' (first
    | refine OL.op rfl ?_
    | refine OL.nil ?_
    | refine Then.normal ?_
    | refine W.seq ?_
    | refine W.region env_ok tbl0_ok ?_
    | refine RL.quiet rfl rfl rfl rfl rfl rfl rfl ?_
    | refine RL.skip rfl rfl ?_
    | refine RL.read env_sym rfl rfl rfl rfl rfl rfl (by repeat' (first | exact .nil | exact .bit rfl | refine .chk ⟨_, rfl, rfl⟩ ?_)) rfl ?_
    | refine RL.alloc rfl rfl rfl rfl rfl ?_
    | refine RL.eff env_sym rfl rfl rfl rfl rfl (by repeat' (first | exact .nil | refine .bit rfl ?_ | refine .chk ⟨_, rfl, rfl⟩ ?_)) rfl rfl ?_
    | refine RL.fin rfl ?_
    | refine W.drawn env_ok tbl0_ok (by kernel_rfl) rfl rfl rfl rfl ?_
    | refine W.block ?_
    | refine WR.next ?_
    | refine W.ret ?_
    | refine W.skip ?_
    | refine Then.ret ?_
    | refine Blk.normal ?_
    | refine Blk.ret ?_
    | refine Blk.out ?_
    | refine Blk.on rfl ?_
    | refine Then.exit ?_
    | refine W.exit ?_
    | refine Fin.ret rfl ?_
    | (refine OL.split rfl rfl rfl rfl rfl rfl (fun hb => ?_) (fun hb => ?_) <;> try contradiction)
    | (refine RL.split rfl rfl rfl rfl rfl rfl (fun hb => ?_) (fun hb => ?_) <;> try contradiction)
    | (refine W.cond rfl (fun hc => ?_) (fun hc => ?_) <;> try (first | contradiction | (exfalso; simp [hw] at hc; omega)))
    | refine OL.quiet rfl (quiet_quo env_sym rfl rfl (by assumption)) rfl ?_
    | refine OL.quiet rfl (quiet_rem env_sym rfl rfl (by assumption)) rfl ?_
    | refine RL.quiet rfl rfl rfl rfl (quiet_quo env_sym rfl rfl (by assumption)) rfl rfl ?_
    | refine RL.quiet rfl rfl rfl rfl (quiet_rem env_sym rfl rfl (by assumption)) rfl rfl ?_
    | refine OL.quiet rfl (quiet_idx env_sym rfl rfl rfl rfl rfl hA0 hA1) rfl ?_
    | refine OL.quiet rfl (quiet_idx env_sym rfl rfl rfl rfl rfl hB0 hB1) rfl ?_
    | refine OL.quiet rfl (quiet_load env_sym rfl hn rfl) rfl ?_
    | refine OL.quiet rfl (quiet_load env_sym rfl hn1 rfl) rfl ?_)
        all_goals
          (refine ⟨m - 1, frAR xs fr to (S + x.u * max 0 (nextA to (xs.drop (i + 1)) - max x.a fr)) (i + 1), ⟨.leaf, 0⟩, by omega, ⟨i + 1, _, rfl, rfl, by omega, ?_⟩, Turns.ren env_gl rfl [] [(0, (dat 2 (xs.map cv))), (1, (.int .i64 fr)), (2, (.int .i64 to)), (7, (.int .i64 (IntKind.i64.wrap (S + x.u * max 0 (nextA to (xs.drop (i + 1)) - max x.a fr))))), (12, (dat 2 (xs.map cv))), (13, (.int .i64 xs.length)), (14, (.int .i64 (i + 1 : Nat)))] [] 0 rfl (by kernel_rfl) rfl ?_ .nil⟩
           · rw [← hS, hd]; simp only [areaS]; omega
           · repeat' (first | exact .nil | refine .cons rfl (.hf (HF_chs _)) ?_ | refine .consE rfl (congrArg (Value.int .i64) (upd1 (maxI _ _) ((minI _ _).trans (by rw [hd1]; rfl)) (by unfold ChP at hxP hyP; split <;> omega) (by unfold ChP at hxP hyP; split <;> omega) (by simpa using hc))) (.hf (HFi _ _)) ?_ | refine .consE rfl (congrArg (Value.int .i64) (upd0 (maxI _ _) ((minI _ _).trans (by rw [hd1]; rfl)) (by simpa using hc))) (.hf (HFi _ _)) ?_ | refine .consE rfl (idx_succ (by omega)) (.hf (HFi _ _)) ?_ | refine .cons rfl (.hf (HFi _ _)) ?_))
      · have hd1 : xs.drop (i + 1) = [] := List.drop_eq_nil_of_le (by omega)
        unfold frAR
        repeat' (first
    | refine OL.op rfl ?_
    | refine OL.nil ?_
    | refine Then.normal ?_
    | refine W.seq ?_
    | refine W.region env_ok tbl0_ok ?_
    | refine RL.quiet rfl rfl rfl rfl rfl rfl rfl ?_
    | refine RL.skip rfl rfl ?_
    | refine RL.read env_sym rfl rfl rfl rfl rfl rfl (by repeat' (first | exact .nil | exact .bit rfl | refine .chk ⟨_, rfl, rfl⟩ ?_)) rfl ?_
    | refine RL.alloc rfl rfl rfl rfl rfl ?_
    | refine RL.eff env_sym rfl rfl rfl rfl rfl (by repeat' (first | exact .nil | refine .bit rfl ?_ | refine .chk ⟨_, rfl, rfl⟩ ?_)) rfl rfl ?_
    | refine RL.fin rfl ?_
    | refine W.drawn env_ok tbl0_ok (by kernel_rfl) rfl rfl rfl rfl ?_
    | refine W.block ?_
    | refine WR.next ?_
    | refine W.ret ?_
    | refine W.skip ?_
    | refine Then.ret ?_
    | refine Blk.normal ?_
    | refine Blk.ret ?_
    | refine Blk.out ?_
    | refine Blk.on rfl ?_
    | refine Then.exit ?_
    | refine W.exit ?_
    | refine Fin.ret rfl ?_
    | (refine OL.split rfl rfl rfl rfl rfl rfl (fun hb => ?_) (fun hb => ?_) <;> try contradiction)
    | (refine RL.split rfl rfl rfl rfl rfl rfl (fun hb => ?_) (fun hb => ?_) <;> try contradiction)
    | (refine W.cond rfl (fun hc => ?_) (fun hc => ?_) <;> try (first | contradiction | (exfalso; simp [hw] at hc; omega)))
    | refine OL.quiet rfl (quiet_quo env_sym rfl rfl (by assumption)) rfl ?_
    | refine OL.quiet rfl (quiet_rem env_sym rfl rfl (by assumption)) rfl ?_
    | refine RL.quiet rfl rfl rfl rfl (quiet_quo env_sym rfl rfl (by assumption)) rfl rfl ?_
    | refine RL.quiet rfl rfl rfl rfl (quiet_rem env_sym rfl rfl (by assumption)) rfl rfl ?_
    | refine OL.quiet rfl (quiet_idx env_sym rfl rfl rfl rfl rfl hA0 hA1) rfl ?_
    | refine OL.quiet rfl (quiet_load env_sym rfl hn rfl) rfl ?_)
        all_goals
          (refine ⟨m - 1, frAR xs fr to (S + x.u * max 0 (nextA to (xs.drop (i + 1)) - max x.a fr)) (i + 1), ⟨.leaf, 0⟩, by omega, ⟨i + 1, _, rfl, rfl, by omega, ?_⟩, Turns.ren env_gl rfl [] [(0, (dat 2 (xs.map cv))), (1, (.int .i64 fr)), (2, (.int .i64 to)), (7, (.int .i64 (IntKind.i64.wrap (S + x.u * max 0 (nextA to (xs.drop (i + 1)) - max x.a fr))))), (12, (dat 2 (xs.map cv))), (13, (.int .i64 xs.length)), (14, (.int .i64 (i + 1 : Nat)))] [] 0 rfl (by kernel_rfl) rfl ?_ .nil⟩
           · rw [← hS, hd]; simp only [areaS]; omega
           · repeat' (first | exact .nil | refine .cons rfl (.hf (HF_chs _)) ?_ | refine .consE rfl (congrArg (Value.int .i64) (upd1 (maxI _ _) (by rw [hd1]; rfl) (by unfold ChP at hxP; first | omega | (split <;> omega)) (by unfold ChP at hxP; first | omega | (split <;> omega)) (by simpa using hc))) (.hf (HFi _ _)) ?_ | refine .consE rfl (congrArg (Value.int .i64) (upd0 (A := if fr > x.a then fr else x.a) (B := to) (maxI _ _) (by rw [hd1]; rfl) (by simpa using hc))) (.hf (HFi _ _)) ?_ | refine .consE rfl (idx_succ (by omega)) (.hf (HFi _ _)) ?_ | refine .cons rfl (.hf (HFi _ _)) ?_))
    · have hd : xs.drop i = [] := List.drop_eq_nil_of_le (by omega)
      unfold frAR
      repeat' (first
    | refine OL.op rfl ?_
    | refine OL.nil ?_
    | refine Then.normal ?_
    | refine W.seq ?_
    | refine W.region env_ok tbl0_ok ?_
    | refine RL.quiet rfl rfl rfl rfl rfl rfl rfl ?_
    | refine RL.skip rfl rfl ?_
    | refine RL.read env_sym rfl rfl rfl rfl rfl rfl (by repeat' (first | exact .nil | exact .bit rfl | refine .chk ⟨_, rfl, rfl⟩ ?_)) rfl ?_
    | refine RL.alloc rfl rfl rfl rfl rfl ?_
    | refine RL.eff env_sym rfl rfl rfl rfl rfl (by repeat' (first | exact .nil | refine .bit rfl ?_ | refine .chk ⟨_, rfl, rfl⟩ ?_)) rfl rfl ?_
    | refine RL.fin rfl ?_
    | refine W.drawn env_ok tbl0_ok (by kernel_rfl) rfl rfl rfl rfl ?_
    | refine W.block ?_
    | refine WR.next ?_
    | refine W.ret ?_
    | refine W.skip ?_
    | refine Then.ret ?_
    | refine Blk.normal ?_
    | refine Blk.ret ?_
    | refine Blk.out ?_
    | refine Blk.on rfl ?_
    | refine Then.exit ?_
    | refine W.exit ?_
    | refine Fin.ret rfl ?_
    | (refine OL.split rfl rfl rfl rfl rfl rfl (fun hb => ?_) (fun hb => ?_) <;> try contradiction)
    | (refine RL.split rfl rfl rfl rfl rfl rfl (fun hb => ?_) (fun hb => ?_) <;> try contradiction)
    | (refine W.cond rfl (fun hc => ?_) (fun hc => ?_) <;> try (first | contradiction | (exfalso; simp at hc; omega)))
    | refine OL.quiet rfl (quiet_quo env_sym rfl rfl (by assumption)) rfl ?_
    | refine OL.quiet rfl (quiet_rem env_sym rfl rfl (by assumption)) rfl ?_
    | refine RL.quiet rfl rfl rfl rfl (quiet_quo env_sym rfl rfl (by assumption)) rfl rfl ?_
    | refine RL.quiet rfl rfl rfl rfl (quiet_rem env_sym rfl rfl (by assumption)) rfl rfl ?_)
      refine .eq ?_ (HFi _ _)
      rw [← hS, hd]; simp [areaS]
  · refine Turns.ren env_gl rfl [] [(0, (dat 2 (xs.map cv))), (1, (.int .i64 fr)), (2, (.int .i64 to)), (7, (.int .i64 (IntKind.i64.wrap 0))), (12, (dat 2 (xs.map cv))), (13, (.int .i64 xs.length)), (14, (.int .i64 (0 : Nat)))] [] 0 rfl (by kernel_rfl) rfl ?_ .nil
    repeat' (first | exact .nil | refine .cons rfl (.hf (HF_chs _)) ?_ | refine .cons rfl (.hf (HFi _ _)) ?_ | refine .consE rfl (by simp) (.hf (HFi _ _)) ?_ | refine .consE rfl (by rw [show IntKind.i64.wrap 0 = 0 by decide]) (.hf (HFi _ _)) ?_)
end
end Go.T9
