/- A part of the proof. -/
import Derived.Test.YtcplcanaonmmpaaGreatDoorZ1
import Derived.Test.YtcplcanaonmmpaaGreatDoorX1
set_option maxRecDepth 1000000
set_option linter.unusedVariables false
namespace Go.T9
open Go Go.AM
set_option maxHeartbeats 40000000
noncomputable section
def prevA (xs : List Ch) (i : Nat) : Option Int := if i = 0 then none else (xs[i - 1]?).map (·.a)
theorem fault_all : ∀ (p : Option Int) (l : List Ch), faultC p l = 0 → ∀ x ∈ l, ChP x
  | p, [], _, x, hx => by simp at hx
  | p, y :: l, h, x, hx => by
    simp only [faultC] at h
    split at h
    · rename_i hy
      split at h
      · simp at h
      · rcases List.mem_cons.1 hx with rfl | hx
        · exact hy
        · exact fault_all _ l h x hx
    · simp at h
theorem fault_9 {p : Option Int} {x : Ch} {l : List Ch} (h : ¬ ChP x) : (9 : Int) = faultC p (x :: l) := by simp [faultC, h]
theorem fault_10 {q : Int} {x : Ch} {l : List Ch} (h : ChP x) (h2 : x.a ≤ q) : (10 : Int) = faultC (some q) (x :: l) := by simp [faultC, h, h2]
theorem fault_go {q : Int} {x : Ch} {l : List Ch} (h : ChP x) (h2 : ¬ x.a ≤ q) : faultC (some x.a) l = faultC (some q) (x :: l) := by simp [faultC, h, h2]
theorem fault_go0 {x : Ch} {l : List Ch} (h : ChP x) : faultC (some x.a) l = faultC none (x :: l) := by simp [faultC, h]
def rangeA (fr to : Int) : Prop := 0 ≤ fr ∧ fr ≤ to ∧ to ≤ 1000000000000
instance (fr to : Int) : Decidable (rangeA fr to) := by unfold rangeA; infer_instance
def errA (xs : List Ch) (fr to : Int) : Int := if 40000 < xs.length then 3 else if faultC none xs = 0 then (if rangeA fr to then 0 else 9) else faultC none xs
def valA (xs : List Ch) (fr to : Int) : Int := if errA xs fr to = 0 then IntKind.i64.wrap (areaS fr to xs) else 0
def bothA (xs : List Ch) (fr to : Int) : Value := .tuple ⟨[.int .i64 (valA xs fr to), .int .i64 (errA xs fr to)]⟩
theorem HF2i (x y : Int) : HF (.tuple ⟨[.int .i64 x, .int .i64 y]⟩) := .tuple (HF.cons (HFi _ _) (HF.cons (HFi _ _) HF.nil))
theorem bothA_err {xs : List Ch} {fr to e : Int} (h : errA xs fr to = e) (h0 : e ≠ 0) : Value.tuple ⟨[.int .i64 0, .int .i64 e]⟩ = bothA xs fr to := by
  subst h; simp only [bothA, valA, h0, if_false]
theorem bothA_ok {xs : List Ch} {fr to : Int} (h : errA xs fr to = 0) : Value.tuple ⟨[.int .i64 (IntKind.i64.wrap (areaS fr to xs)), .int .i64 0]⟩ = bothA xs fr to := by
  simp only [bothA, valA, h, if_true]
theorem errA_fault {xs : List Ch} {fr to e : Int} (hl : xs.length ≤ 40000) (h : faultC none xs = e) (h0 : e ≠ 0) : errA xs fr to = e := by
  subst h; simp only [errA]; rw [if_neg (by omega), if_neg h0]
theorem errA_range {xs : List Ch} {fr to : Int} (hl : xs.length ≤ 40000) (h : faultC none xs = 0) (hr : ¬ rangeA fr to) : errA xs fr to = 9 := by
  simp only [errA]; rw [if_neg (by omega), if_pos h, if_neg hr]
theorem errA_ok {xs : List Ch} {fr to : Int} (hl : xs.length ≤ 40000) (h : faultC none xs = 0) (hr : rangeA fr to) : errA xs fr to = 0 := by
  simp only [errA]; rw [if_neg (by omega), if_pos h, if_pos hr]
theorem HF_ar (xs : List Ch) (a b : Int) : ∀ x ∈ [dat 2 (xs.map cv), .int .i64 a, .int .i64 b], HF x := HF.cons (HF_chs xs) (HF.cons (HFi _ _) (HF.cons (HFi _ _) HF.nil))
def tblAr (xs : List Ch) (fr to : Int) : List (FuncId × ExtF) := [(47, pureX (one [dat 2 (xs.map cv), .int .i64 fr, .int .i64 to] (.int .i64 (IntKind.i64.wrap (areaS fr to xs)))))]
theorem tblAr_ok {xs : List Ch} {fr to : Int} (hl : xs.length ≤ 40000) (hok : ∀ x ∈ xs, ChP x) (hr : rangeA fr to) : CallOk env (calls (tblAr xs fr to)) :=
  calls_ok (.cons (con_one env_ok env_gl (fn := Proofs.Tryz.f47) rfl (HF_ar xs fr to) (areaR_walk xs fr to hl hok hr.1 hr.2.1 hr.2.2)) .nil)
def frAC (xs : List Ch) (fr to : Int) (i : Nat) : T Value := (.node (.node (.node (.node (.node .leaf (some (.int .i64 i)) .leaf) none .leaf) none .leaf) (some (.int .i64 fr)) (.node .leaf none (.node .leaf (some (dat 2 (xs.map cv))) .leaf))) (some (dat 2 (xs.map cv))) (.node .leaf (some (.int .i64 to)) (.node .leaf none (.node .leaf (some (.int .i64 xs.length)) .leaf))))
theorem prev_succ {xs : List Ch} {i : Nat} {x : Ch} (hx : xs[i]? = some x) : prevA xs (i + 1) = some x.a := by simp [prevA, hx]
theorem areaRef_walk (xs : List Ch) (fr to : Int) : Walk env Proofs.Tryz.f20 [dat 2 (xs.map cv), .int .i64 fr, .int .i64 to] (bothA xs fr to) := by
  refine ⟨_, _, rfl, rfl, rfl, ?_⟩
  repeat' (first
    | refine OL.op rfl ?_
    | refine OL.nil ?_
    | refine Then.normal ?_
    | refine W.seq ?_
    | refine W.region env_ok tblO_ok ?_
    | refine RL.quiet rfl rfl rfl rfl rfl rfl rfl ?_
    | refine RL.skip rfl rfl ?_
    | refine RL.read env_sym rfl rfl rfl rfl rfl rfl (by repeat' (first | exact .nil | exact .bit rfl | refine .chk ⟨_, rfl, rfl⟩ ?_)) rfl ?_
    | refine RL.alloc rfl rfl rfl rfl rfl ?_
    | refine RL.eff env_sym rfl rfl rfl rfl rfl (by repeat' (first | exact .nil | refine .bit rfl ?_ | refine .chk ⟨_, rfl, rfl⟩ ?_)) rfl rfl ?_
    | refine RL.fin rfl ?_
    | refine W.drawn env_ok tblO_ok (by kernel_rfl) rfl rfl rfl rfl ?_
    | refine W.block ?_
    | refine WR.next ?_
    | refine W.ret ?_
    | refine W.skip ?_
    | refine Then.ret ?_
    | refine Blk.normal ?_
    | refine Blk.ret ?_
    | refine Blk.out ?_
    | refine Blk.on rfl ?_
    | refine Then.exit ?_
    | refine W.exit ?_
    | refine Fin.ret rfl ?_
    | (refine OL.split rfl rfl rfl rfl rfl rfl (fun hb => ?_) (fun hb => ?_) <;> try contradiction)
    | (refine RL.split rfl rfl rfl rfl rfl rfl (fun hb => ?_) (fun hb => ?_) <;> try contradiction)
    | (refine W.cond rfl (fun hc => ?_) (fun hc => ?_) <;> try contradiction)
    | refine OL.quiet rfl (quiet_quo env_sym rfl rfl (by assumption)) rfl ?_
    | refine OL.quiet rfl (quiet_rem env_sym rfl rfl (by assumption)) rfl ?_
    | refine RL.quiet rfl rfl rfl rfl (quiet_quo env_sym rfl rfl (by assumption)) rfl rfl ?_
    | refine RL.quiet rfl rfl rfl rfl (quiet_rem env_sym rfl rfl (by assumption)) rfl rfl ?_)
  · simp only [List.length_map, decide_eq_true_eq] at hc
    exact .eq (bothA_err (by simp only [errA]; rw [if_pos (by omega)]) (by decide)) (HF2i _ _)
  have hl : xs.length ≤ 40000 := by simp only [List.length_map, decide_eq_false_iff_not] at hc; omega
  refine W.loopT (fun m F A => ∃ i : Nat, F = frAC xs fr to i ∧ A = ⟨.leaf, 0⟩ ∧ i + m = xs.length ∧ faultC (prevA xs i) (xs.drop i) = faultC none xs) ?_ (m := xs.length) ⟨0, rfl, rfl, by simp, by simp [prevA]⟩ ?_
  · rintro m F A ⟨i, rfl, rfl, hm, hfind⟩
    by_cases hlt : i < xs.length
    · obtain ⟨x, hx⟩ : ∃ x, xs[i]? = some x := ⟨xs[i], by simp [hlt]⟩
      have hn := nth_map (f := cv) hx
      have hd := drop_cons hx
      have hA0 : (0 : Int) ≤ (i : Int) := Int.natCast_nonneg i
      have hA1 : (i : Int) < ((xs.map cv).length : Int) := by simpa using hlt
      by_cases hi0 : i = 0
      · subst hi0
        have hprev : prevA xs 0 = none := rfl
        unfold frAC
        repeat' (first
    | refine OL.op rfl ?_
    | refine OL.nil ?_
    | refine Then.normal ?_
    | refine W.seq ?_
    | refine W.region env_ok tblO_ok ?_
    | refine RL.quiet rfl rfl rfl rfl rfl rfl rfl ?_
    | refine RL.skip rfl rfl ?_
    | refine RL.read env_sym rfl rfl rfl rfl rfl rfl (by repeat' (first | exact .nil | exact .bit rfl | refine .chk ⟨_, rfl, rfl⟩ ?_)) rfl ?_
    | refine RL.alloc rfl rfl rfl rfl rfl ?_
    | refine RL.eff env_sym rfl rfl rfl rfl rfl (by repeat' (first | exact .nil | refine .bit rfl ?_ | refine .chk ⟨_, rfl, rfl⟩ ?_)) rfl rfl ?_
    | refine RL.fin rfl ?_
    | refine W.drawn env_ok tblO_ok (by kernel_rfl) rfl rfl rfl rfl ?_
    | refine W.block ?_
    | refine WR.next ?_
    | refine W.ret ?_
    | refine W.skip ?_
    | refine Then.ret ?_
    | refine Blk.normal ?_
    | refine Blk.ret ?_
    | refine Blk.out ?_
    | refine Blk.on rfl ?_
    | refine Then.exit ?_
    | refine W.exit ?_
    | refine Fin.ret rfl ?_
    | (refine OL.split rfl rfl rfl rfl rfl rfl (fun hb => ?_) (fun hb => ?_) <;> try contradiction)
    | (refine RL.split rfl rfl rfl rfl rfl rfl (fun hb => ?_) (fun hb => ?_) <;> try contradiction)
    | (refine W.cond rfl (fun hc => ?_) (fun hc => ?_) <;> try (first | contradiction | (exfalso; simp only [decide_eq_false_iff_not] at hc; omega)))
    | refine OL.quiet rfl (quiet_quo env_sym rfl rfl (by assumption)) rfl ?_
    | refine OL.quiet rfl (quiet_rem env_sym rfl rfl (by assumption)) rfl ?_
    | refine RL.quiet rfl rfl rfl rfl (quiet_quo env_sym rfl rfl (by assumption)) rfl rfl ?_
    | refine RL.quiet rfl rfl rfl rfl (quiet_rem env_sym rfl rfl (by assumption)) rfl rfl ?_
    | refine OL.quiet rfl (quiet_idx env_sym rfl rfl rfl rfl rfl hA0 hA1) rfl ?_
    | refine OL.quiet rfl (quiet_load env_sym rfl hn rfl) rfl ?_)
        all_goals simp only [decide_eq_true_eq, decide_eq_false_iff_not, Bool.not_eq_true', Bool.not_eq_false', Bool.and_eq_true, Bool.and_eq_false_iff] at *
        all_goals first
          | exact .eq (bothA_err (errA_fault hl (by rw [← hfind, hd]; exact (fault_9 (by unfold ChP; omega)).symm) (by decide)) (by decide)) (HF2i _ _)
          | exact .eq (bothA_err (errA_fault hl (by rw [← hfind, hd, hprev]; exact (fault_10 (by unfold ChP; omega) (by omega)).symm) (by decide)) (by decide)) (HF2i _ _)
          | (exfalso; omega)
          | (refine ⟨m - 1, frAC xs fr to (0 + 1), ⟨.leaf, 0⟩, by omega, ⟨0 + 1, rfl, rfl, by omega, ?_⟩, Turns.ren env_gl rfl [] [(0, (dat 2 (xs.map cv))), (1, (.int .i64 fr)), (2, (.int .i64 to)), (13, (dat 2 (xs.map cv))), (14, (.int .i64 xs.length)), (15, (.int .i64 (0 + 1 : Nat)))] [] 0 rfl (by kernel_rfl) rfl ?_ .nil⟩
             · rw [← hfind, hd, prev_succ hx, hprev]; exact fault_go0 (by unfold ChP; omega)
             · (repeat' (first | exact .nil | refine .cons rfl (.hf (HFi _ _)) ?_ | refine .cons rfl (.hf (HFb _)) ?_ | refine .cons rfl (.hf (HF_chs _)) ?_ | refine .consE rfl (idx_succ (by omega)) (.hf (HFi _ _)) ?_ | refine .consE rfl (by simp) (.hf (HFi _ _)) ?_)))
      · obtain ⟨y, hy⟩ : ∃ y, xs[i - 1]? = some y := ⟨xs[i - 1]'(by omega), List.getElem?_eq_getElem (by omega)⟩
        have hw : IntKind.i64.wrap ((i : Int) - 1) = ((i - 1 : Nat) : Int) := by rw [i64_in (by omega) (by omega)]; omega
        have hn1 : nth (xs.map cv) (Int.toNat (IntKind.i64.wrap ((i : Int) - 1))) = some (cv y) := by rw [hw]; exact nth_map hy
        have hB0 : (0 : Int) ≤ IntKind.i64.wrap ((i : Int) - 1) := by rw [hw]; exact Int.natCast_nonneg _
        have hB1 : IntKind.i64.wrap ((i : Int) - 1) < ((xs.map cv).length : Int) := by rw [hw]; simp; omega
        have hprev : prevA xs i = some y.a := by simp [prevA, hi0, hy]
        unfold frAC
        repeat' (first
    | refine RL.quiet rfl rfl rfl rfl (quiet_idx env_sym rfl rfl rfl rfl rfl hB0 hB1) rfl rfl ?_
    | refine RL.read env_sym rfl rfl rfl rfl (quiet_load env_sym rfl hn1 rfl) rfl (by repeat' (first | exact .nil | exact .bit rfl | refine .chk ⟨_, quiet_load env_sym rfl hn1 rfl, rfl⟩ ?_ | refine .chk ⟨_, rfl, rfl⟩ ?_)) rfl ?_
    | refine OL.op rfl ?_
    | refine OL.nil ?_
    | refine Then.normal ?_
    | refine W.seq ?_
    | refine W.region env_ok tblO_ok ?_
    | refine RL.quiet rfl rfl rfl rfl rfl rfl rfl ?_
    | refine RL.skip rfl rfl ?_
    | refine RL.read env_sym rfl rfl rfl rfl rfl rfl (by repeat' (first | exact .nil | exact .bit rfl | refine .chk ⟨_, rfl, rfl⟩ ?_)) rfl ?_
    | refine RL.alloc rfl rfl rfl rfl rfl ?_
    | refine RL.eff env_sym rfl rfl rfl rfl rfl (by repeat' (first | exact .nil | refine .bit rfl ?_ | refine .chk ⟨_, rfl, rfl⟩ ?_)) rfl rfl ?_
    | refine RL.fin rfl ?_
    | refine W.drawn env_ok tblO_ok (by kernel_rfl) rfl rfl rfl rfl ?_
    | refine W.block ?_
    | refine WR.next ?_
    | refine W.ret ?_
    | refine W.skip ?_
    | refine Then.ret ?_
    | refine Blk.normal ?_
    | refine Blk.ret ?_
    | refine Blk.out ?_
    | refine Blk.on rfl ?_
    | refine Then.exit ?_
    | refine W.exit ?_
    | refine Fin.ret rfl ?_
    | (refine OL.split rfl rfl rfl rfl rfl rfl (fun hb => ?_) (fun hb => ?_) <;> try contradiction)
    | (refine RL.split rfl rfl rfl rfl rfl rfl (fun hb => ?_) (fun hb => ?_) <;> try contradiction)
    | (refine W.cond rfl (fun hc => ?_) (fun hc => ?_) <;> try (first | contradiction | (exfalso; simp only [decide_eq_false_iff_not] at hc; omega)))
    | refine OL.quiet rfl (quiet_quo env_sym rfl rfl (by assumption)) rfl ?_
    | refine OL.quiet rfl (quiet_rem env_sym rfl rfl (by assumption)) rfl ?_
    | refine RL.quiet rfl rfl rfl rfl (quiet_quo env_sym rfl rfl (by assumption)) rfl rfl ?_
    | refine RL.quiet rfl rfl rfl rfl (quiet_rem env_sym rfl rfl (by assumption)) rfl rfl ?_
    | refine OL.quiet rfl (quiet_idx env_sym rfl rfl rfl rfl rfl hA0 hA1) rfl ?_
    | refine OL.quiet rfl (quiet_load env_sym rfl hn rfl) rfl ?_)
        all_goals simp only [decide_eq_true_eq, decide_eq_false_iff_not, Bool.not_eq_true', Bool.not_eq_false', Bool.and_eq_true, Bool.and_eq_false_iff] at *
        all_goals first
          | exact .eq (bothA_err (errA_fault hl (by rw [← hfind, hd]; exact (fault_9 (by unfold ChP; omega)).symm) (by decide)) (by decide)) (HF2i _ _)
          | exact .eq (bothA_err (errA_fault hl (by rw [← hfind, hd, hprev]; exact (fault_10 (by unfold ChP; omega) (by omega)).symm) (by decide)) (by decide)) (HF2i _ _)
          | (exfalso; omega)
          | (refine ⟨m - 1, frAC xs fr to (i + 1), ⟨.leaf, 0⟩, by omega, ⟨i + 1, rfl, rfl, by omega, ?_⟩, Turns.ren env_gl rfl [] [(0, (dat 2 (xs.map cv))), (1, (.int .i64 fr)), (2, (.int .i64 to)), (13, (dat 2 (xs.map cv))), (14, (.int .i64 xs.length)), (15, (.int .i64 (i + 1 : Nat)))] [] 0 rfl (by kernel_rfl) rfl ?_ .nil⟩
             · rw [← hfind, hd, prev_succ hx, hprev]; exact fault_go (by unfold ChP; omega) (by omega)
             · (repeat' (first | exact .nil | refine .cons rfl (.hf (HFi _ _)) ?_ | refine .cons rfl (.hf (HFb _)) ?_ | refine .cons rfl (.hf (HF_chs _)) ?_ | refine .consE rfl (idx_succ (by omega)) (.hf (HFi _ _)) ?_ | refine .consE rfl (by simp) (.hf (HFi _ _)) ?_)))
    · have hd : xs.drop i = [] := List.drop_eq_nil_of_le (by omega)
      have hf0 : faultC none xs = 0 := by rw [← hfind, hd]; cases prevA xs i <;> rfl
      unfold frAC
      by_cases hr : rangeA fr to
      · have hcall := tblAr_ok hl (fault_all none xs hf0) hr
        have hr' := hr
        unfold rangeA at hr'
        repeat' (first
    | refine OL.op rfl ?_
    | refine OL.nil ?_
    | refine Then.normal ?_
    | refine W.seq ?_
    | refine W.region env_ok hcall ?_
    | refine RL.quiet rfl rfl rfl rfl rfl rfl rfl ?_
    | refine RL.skip rfl rfl ?_
    | refine RL.read env_sym rfl rfl rfl rfl rfl rfl (by repeat' (first | exact .nil | exact .bit rfl | refine .chk ⟨_, rfl, rfl⟩ ?_)) rfl ?_
    | refine RL.alloc rfl rfl rfl rfl rfl ?_
    | refine RL.eff env_sym rfl rfl rfl rfl rfl (by repeat' (first | exact .nil | refine .bit rfl ?_ | refine .chk ⟨_, rfl, rfl⟩ ?_)) rfl rfl ?_
    | refine RL.fin rfl ?_
    | refine W.drawn env_ok hcall (by kernel_rfl) rfl rfl rfl rfl ?_
    | refine W.block ?_
    | refine WR.next ?_
    | refine W.ret ?_
    | refine W.skip ?_
    | refine Then.ret ?_
    | refine Blk.normal ?_
    | refine Blk.ret ?_
    | refine Blk.out ?_
    | refine Blk.on rfl ?_
    | refine Then.exit ?_
    | refine W.exit ?_
    | refine Fin.ret rfl ?_
    | (refine OL.split rfl rfl rfl rfl rfl rfl (fun hb => ?_) (fun hb => ?_) <;> try contradiction)
    | (refine RL.split rfl rfl rfl rfl rfl rfl (fun hb => ?_) (fun hb => ?_) <;> try contradiction)
    | (refine W.cond rfl (fun hc => ?_) (fun hc => ?_) <;> try (first | contradiction | (exfalso; simp only [decide_eq_true_eq] at hc; omega)))
    | refine OL.quiet rfl (quiet_quo env_sym rfl rfl (by assumption)) rfl ?_
    | refine OL.quiet rfl (quiet_rem env_sym rfl rfl (by assumption)) rfl ?_
    | refine RL.quiet rfl rfl rfl rfl (quiet_quo env_sym rfl rfl (by assumption)) rfl rfl ?_
    | refine RL.quiet rfl rfl rfl rfl (quiet_rem env_sym rfl rfl (by assumption)) rfl rfl ?_
    | refine OL.eff rfl rfl rfl (eff_call rfl rfl rfl rfl (one_self _ _)) rfl ?_)
        all_goals first
          | exact .eq (bothA_ok (errA_ok hl hf0 hr)) (HF2i _ _)
          | (exfalso; simp only [decide_eq_true_eq, decide_eq_false_iff_not] at *; omega)
      · have hr' := hr
        unfold rangeA at hr'
        repeat' (first
    | refine OL.op rfl ?_
    | refine OL.nil ?_
    | refine Then.normal ?_
    | refine W.seq ?_
    | refine W.region env_ok tbl0_ok ?_
    | refine RL.quiet rfl rfl rfl rfl rfl rfl rfl ?_
    | refine RL.skip rfl rfl ?_
    | refine RL.read env_sym rfl rfl rfl rfl rfl rfl (by repeat' (first | exact .nil | exact .bit rfl | refine .chk ⟨_, rfl, rfl⟩ ?_)) rfl ?_
    | refine RL.alloc rfl rfl rfl rfl rfl ?_
    | refine RL.eff env_sym rfl rfl rfl rfl rfl (by repeat' (first | exact .nil | refine .bit rfl ?_ | refine .chk ⟨_, rfl, rfl⟩ ?_)) rfl rfl ?_
    | refine RL.fin rfl ?_
    | refine W.drawn env_ok tbl0_ok (by kernel_rfl) rfl rfl rfl rfl ?_
    | refine W.block ?_
    | refine WR.next ?_
    | refine W.ret ?_
    | refine W.skip ?_
    | refine Then.ret ?_
    | refine Blk.normal ?_
    | refine Blk.ret ?_
    | refine Blk.out ?_
    | refine Blk.on rfl ?_
    | refine Then.exit ?_
    | refine W.exit ?_
    | refine Fin.ret rfl ?_
    | (refine OL.split rfl rfl rfl rfl rfl rfl (fun hb => ?_) (fun hb => ?_) <;> try contradiction)
    | (refine RL.split rfl rfl rfl rfl rfl rfl (fun hb => ?_) (fun hb => ?_) <;> try contradiction)
    | (refine W.cond rfl (fun hc => ?_) (fun hc => ?_) <;> try (first | contradiction | (exfalso; simp only [decide_eq_true_eq] at hc; omega)))
    | refine OL.quiet rfl (quiet_quo env_sym rfl rfl (by assumption)) rfl ?_
    | refine OL.quiet rfl (quiet_rem env_sym rfl rfl (by assumption)) rfl ?_
    | refine RL.quiet rfl rfl rfl rfl (quiet_quo env_sym rfl rfl (by assumption)) rfl rfl ?_
    | refine RL.quiet rfl rfl rfl rfl (quiet_rem env_sym rfl rfl (by assumption)) rfl rfl ?_)
        all_goals first
          | exact .eq (bothA_err (errA_range hl hf0 hr) (by decide)) (HF2i _ _)
          | (exfalso; simp only [decide_eq_true_eq, decide_eq_false_iff_not] at *; omega)
  · refine Turns.ren env_gl rfl [] [(0, (dat 2 (xs.map cv))), (1, (.int .i64 fr)), (2, (.int .i64 to)), (13, (dat 2 (xs.map cv))), (14, (.int .i64 xs.length)), (15, (.int .i64 (0 : Nat)))] [] 0 rfl (by kernel_rfl) rfl ?_ .nil
    (repeat' (first | exact .nil | refine .cons rfl (.hf (HFi _ _)) ?_ | refine .cons rfl (.hf (HFb _)) ?_ | refine .cons rfl (.hf (HF_chs _)) ?_ | refine .consE rfl (idx_succ (by omega)) (.hf (HFi _ _)) ?_ | refine .consE rfl (by simp) (.hf (HFi _ _)) ?_))
end
end Go.T9
