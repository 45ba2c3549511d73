/- A part of the proof. -/
import Derived.Test.YtcplcanaonmmpaaGreatDoorX2
import Derived.Test.YtcplcanaonmmpaaGreatDoorX3
import Derived.Test.YtcplcanaonmmpaaGreatDoorC
import Derived.KernelRfl
set_option maxRecDepth 1000000
set_option linter.unusedVariables false
set_option linter.unusedSimpArgs false
namespace Go.T9
open Go Go.AM
set_option maxHeartbeats 40000000
noncomputable section
def fv (kind number t : Int) : List Tr → Int
  | [] => 0
  | x :: l => bif hit kind number t x then x.v else fv kind number t l
def fb (kind number t : Int) : List Tr → Bool
  | [] => false
  | x :: l => bif hit kind number t x then true else fb kind number t l
def two (kind number t : Int) (xs : List Tr) : Value := .tuple ⟨[.int .i64 (fv kind number t xs), .bool (fb kind number t xs)]⟩
theorem findT_eq (kind number t : Int) : ∀ xs : List Tr, findT kind number t xs = two kind number t xs
  | [] => rfl
  | x :: l => by
    simp only [findT, two, fv, fb]
    cases hit kind number t x
    · exact findT_eq kind number t l
    · rfl
def kOk (k : Int) : Bool := decide (1 ≤ k) && decide (k ≤ 5)
def tOk (t : Int) : Bool := decide (0 ≤ t) && decide (t ≤ 1000000000000)
def tE (xs : List Tr) (kind t : Int) : Int := bif decide (checkF xs = 0) then (bif kOk kind then (bif tOk t then 0 else 9) else 7) else checkF xs
def tV (xs : List Tr) (kind number t : Int) : Int := bif decide (checkF xs = 0) && (kOk kind && tOk t) then fv kind number t xs else 0
def tB (xs : List Tr) (kind number t : Int) : Bool := bif decide (checkF xs = 0) && (kOk kind && tOk t) then fb kind number t xs else false
def wholeF (xs : List Tr) (kind number t : Int) : Value := .tuple ⟨[.int .i64 (tV xs kind number t), .bool (tB xs kind number t), .int .i64 (tE xs kind t)]⟩
theorem HF3 (x : Int) (y : Bool) (z : Int) : HF (.tuple ⟨[.int .i64 x, .bool y, .int .i64 z]⟩) := .tuple (HF.cons (HFi _ _) (HF.cons (HFb _) (HF.cons (HFi _ _) HF.nil)))
theorem HFa (xs : List Tr) (kind number t : Int) : ∀ x ∈ [dat 5 (xs.map tv), .int .i64 kind, .int .i64 number, .int .i64 t], HF x := HF.cons (HF_trs xs) (HF.cons (HFi _ _) (HF.cons (HFi _ _) (HF.cons (HFi _ _) HF.nil)))
theorem w_bad {xs : List Tr} {kind number t : Int} (h : (!decide (checkF xs = 0)) = true) : Value.tuple ⟨[.int .i64 0, .bool false, .int .i64 (checkF xs)]⟩ = wholeF xs kind number t := by
  simp only [Bool.not_eq_true'] at h
  simp only [wholeF, tV, tB, tE, h, Bool.false_and, cond_false]
theorem w_kind {xs : List Tr} {kind number t : Int} (h : (!decide (checkF xs = 0)) = false) (h2 : (!(decide (1 ≤ kind) && decide (kind ≤ 5))) = true) : Value.tuple ⟨[.int .i64 0, .bool false, .int .i64 7]⟩ = wholeF xs kind number t := by
  simp only [Bool.not_eq_false'] at h
  simp only [Bool.not_eq_true'] at h2
  simp only [wholeF, tV, tB, tE, kOk, h, h2, Bool.false_and, Bool.and_false, cond_false, cond_true]
theorem w_time {xs : List Tr} {kind number t : Int} (h : (!decide (checkF xs = 0)) = false) (h2 : (!(decide (1 ≤ kind) && decide (kind ≤ 5))) = false) (h3 : (!(decide (0 ≤ t) && decide (t ≤ 1000000000000))) = true) : Value.tuple ⟨[.int .i64 0, .bool false, .int .i64 9]⟩ = wholeF xs kind number t := by
  simp only [Bool.not_eq_false'] at h h2
  simp only [Bool.not_eq_true'] at h3
  simp only [wholeF, tV, tB, tE, kOk, tOk, h, h2, h3, Bool.and_false, cond_false, cond_true]
theorem w_yes {xs : List Tr} {kind number t : Int} (h : (!decide (checkF xs = 0)) = false) (h2 : (!(decide (1 ≤ kind) && decide (kind ≤ 5))) = false) (h3 : (!(decide (0 ≤ t) && decide (t ≤ 1000000000000))) = false) : Value.tuple ⟨[.int .i64 (fv kind number t xs), .bool (fb kind number t xs), .int .i64 0]⟩ = wholeF xs kind number t := by
  simp only [Bool.not_eq_false'] at h h2 h3
  simp only [wholeF, tV, tB, tE, kOk, tOk, h, h2, h3, Bool.and_self, cond_true]
theorem long_bad {xs : List Tr} (hl : ¬ xs.length ≤ 100) : decide (checkF xs = 0) = false := by
  have : 100 < xs.length := by omega
  simp [checkF, this]
def tblT (xs : List Tr) (kind number t : Int) : List (FuncId × ExtF) := [(40, pureX (one [dat 5 (xs.map tv)] (.int .i64 (checkF xs)))), (44, pureX (one [dat 5 (xs.map tv)] (.int .i64 (checkF xs)))), (41, pureX kindX), (42, pureX insideX), (45, pureX outsideX),
  (43, pureX (one [dat 5 (xs.map tv), .int .i64 kind, .int .i64 number, .int .i64 t] (two kind number t xs))), (46, pureX (one [dat 5 (xs.map tv), .int .i64 kind, .int .i64 number, .int .i64 t] (two kind number t xs)))]
theorem tblT_ok {xs : List Tr} {kind number t : Int} (hl : xs.length ≤ 100) : CallOk env (calls (tblT xs kind number t)) :=
  calls_ok (.cons (con_one env_ok env_gl (fn := Proofs.Tryz.f40) rfl (HF.cons (HF_trs xs) HF.nil) (check_walk xs)) (.cons (con_one env_ok env_gl (fn := Proofs.Tryz.f44) rfl (HF.cons (HF_trs xs) HF.nil) (fault_walk xs)) (.cons kind_con (.cons inside_con (.cons outside_con
    (.cons (con_one env_ok env_gl (fn := Proofs.Tryz.f43) rfl (HFa xs kind number t) (findT_eq kind number t xs ▸ trouble_walk xs kind number t hl)) (.cons (con_one env_ok env_gl (fn := Proofs.Tryz.f46) rfl (HFa xs kind number t) (findT_eq kind number t xs ▸ troubleR_walk xs kind number t hl)) .nil)))))))
def tblL (xs : List Tr) : List (FuncId × ExtF) := [(40, pureX (one [dat 5 (xs.map tv)] (.int .i64 (checkF xs)))), (44, pureX (one [dat 5 (xs.map tv)] (.int .i64 (checkF xs))))]
theorem tblL_ok (xs : List Tr) : CallOk env (calls (tblL xs)) :=
  calls_ok (.cons (con_one env_ok env_gl (fn := Proofs.Tryz.f40) rfl (HF.cons (HF_trs xs) HF.nil) (check_walk xs)) (.cons (con_one env_ok env_gl (fn := Proofs.Tryz.f44) rfl (HF.cons (HF_trs xs) HF.nil) (fault_walk xs)) .nil))
theorem whole_walk (xs : List Tr) (kind number t : Int) : Walk env Proofs.Tryz.f17 [dat 5 (xs.map tv), .int .i64 kind, .int .i64 number, .int .i64 t] (wholeF xs kind number t) := by
  by_cases hl : xs.length ≤ 100
  · refine ⟨_, _, rfl, rfl, rfl, ?_⟩
    have hcall := tblT_ok (kind := kind) (number := number) (t := t) hl
    repeat' (first
    | refine OL.op rfl ?_
    | refine OL.nil ?_
    | refine Then.normal ?_
    | refine W.seq ?_
    | refine W.region env_ok hcall ?_
    | refine RL.quiet rfl rfl rfl rfl rfl rfl rfl ?_
    | refine RL.skip rfl rfl ?_
    | refine RL.read env_sym rfl rfl rfl rfl rfl rfl (by repeat' (first | exact .nil | exact .bit rfl | refine .chk ⟨_, rfl, rfl⟩ ?_)) rfl ?_
    | refine RL.alloc rfl rfl rfl rfl rfl ?_
    | refine RL.eff env_sym rfl rfl rfl rfl rfl (by repeat' (first | exact .nil | refine .bit rfl ?_ | refine .chk ⟨_, rfl, rfl⟩ ?_)) rfl rfl ?_
    | refine RL.fin rfl ?_
    | refine W.drawn env_ok hcall (by kernel_rfl) rfl rfl rfl rfl ?_
    | refine W.block ?_
    | refine WR.next ?_
    | refine W.ret ?_
    | refine W.skip ?_
    | refine Then.ret ?_
    | refine Blk.normal ?_
    | refine Blk.ret ?_
    | refine Blk.out ?_
    | refine Blk.on rfl ?_
    | refine Then.exit ?_
    | refine W.exit ?_
    | refine Fin.ret rfl ?_
    | (refine OL.split rfl rfl rfl rfl rfl rfl (fun hb => ?_) (fun hb => ?_) <;> try contradiction)
    | (refine RL.split rfl rfl rfl rfl rfl rfl (fun hb => ?_) (fun hb => ?_) <;> try contradiction)
    | (refine W.cond rfl (fun hc => ?_) (fun hc => ?_) <;> try contradiction)
    | refine OL.quiet rfl (quiet_quo env_sym rfl rfl (by assumption)) rfl ?_
    | refine OL.quiet rfl (quiet_rem env_sym rfl rfl (by assumption)) rfl ?_
    | refine RL.quiet rfl rfl rfl rfl (quiet_quo env_sym rfl rfl (by assumption)) rfl rfl ?_
    | refine RL.quiet rfl rfl rfl rfl (quiet_rem env_sym rfl rfl (by assumption)) rfl rfl ?_
    | refine OL.eff rfl rfl rfl (eff_call rfl rfl rfl rfl (one_self _ _)) rfl ?_)
    · exact .eq (w_bad hc) (HF3 _ _ _)
    · exact .eq (w_kind (by assumption) hc) (HF3 _ _ _)
    · exact .eq (w_time (by assumption) (by assumption) hc) (HF3 _ _ _)
    · exact .eq (w_yes (by assumption) (by assumption) hc) (HF3 _ _ _)
  · refine ⟨_, _, rfl, rfl, rfl, ?_⟩
    have hcall := tblL_ok xs
    repeat' (first
    | refine OL.op rfl ?_
    | refine OL.nil ?_
    | refine Then.normal ?_
    | refine W.seq ?_
    | refine W.region env_ok hcall ?_
    | refine RL.quiet rfl rfl rfl rfl rfl rfl rfl ?_
    | refine RL.skip rfl rfl ?_
    | refine RL.read env_sym rfl rfl rfl rfl rfl rfl (by repeat' (first | exact .nil | exact .bit rfl | refine .chk ⟨_, rfl, rfl⟩ ?_)) rfl ?_
    | refine RL.alloc rfl rfl rfl rfl rfl ?_
    | refine RL.eff env_sym rfl rfl rfl rfl rfl (by repeat' (first | exact .nil | refine .bit rfl ?_ | refine .chk ⟨_, rfl, rfl⟩ ?_)) rfl rfl ?_
    | refine RL.fin rfl ?_
    | refine W.drawn env_ok hcall (by kernel_rfl) rfl rfl rfl rfl ?_
    | refine W.block ?_
    | refine WR.next ?_
    | refine W.ret ?_
    | refine W.skip ?_
    | refine Then.ret ?_
    | refine Blk.normal ?_
    | refine Blk.ret ?_
    | refine Blk.out ?_
    | refine Blk.on rfl ?_
    | refine Then.exit ?_
    | refine W.exit ?_
    | refine Fin.ret rfl ?_
    | (refine OL.split rfl rfl rfl rfl rfl rfl (fun hb => ?_) (fun hb => ?_) <;> try contradiction)
    | (refine RL.split rfl rfl rfl rfl rfl rfl (fun hb => ?_) (fun hb => ?_) <;> try contradiction)
    | (refine W.cond rfl (fun hc => ?_) (fun hc => ?_) <;> try (first | contradiction | exact absurd hc (by rw [long_bad hl]; decide)))
    | refine OL.quiet rfl (quiet_quo env_sym rfl rfl (by assumption)) rfl ?_
    | refine OL.quiet rfl (quiet_rem env_sym rfl rfl (by assumption)) rfl ?_
    | refine RL.quiet rfl rfl rfl rfl (quiet_quo env_sym rfl rfl (by assumption)) rfl rfl ?_
    | refine RL.quiet rfl rfl rfl rfl (quiet_rem env_sym rfl rfl (by assumption)) rfl rfl ?_
    | refine OL.eff rfl rfl rfl (eff_call rfl rfl rfl rfl (one_self _ _)) rfl ?_)
    exact .eq (w_bad hc) (HF3 _ _ _)
theorem wholeR_walk (xs : List Tr) (kind number t : Int) : Walk env Proofs.Tryz.f18 [dat 5 (xs.map tv), .int .i64 kind, .int .i64 number, .int .i64 t] (wholeF xs kind number t) := by
  by_cases hl : xs.length ≤ 100
  · refine ⟨_, _, rfl, rfl, rfl, ?_⟩
    have hcall := tblT_ok (kind := kind) (number := number) (t := t) hl
    repeat' (first
    | refine OL.op rfl ?_
    | refine OL.nil ?_
    | refine Then.normal ?_
    | refine W.seq ?_
    | refine W.region env_ok hcall ?_
    | refine RL.quiet rfl rfl rfl rfl rfl rfl rfl ?_
    | refine RL.skip rfl rfl ?_
    | refine RL.read env_sym rfl rfl rfl rfl rfl rfl (by repeat' (first | exact .nil | exact .bit rfl | refine .chk ⟨_, rfl, rfl⟩ ?_)) rfl ?_
    | refine RL.alloc rfl rfl rfl rfl rfl ?_
    | refine RL.eff env_sym rfl rfl rfl rfl rfl (by repeat' (first | exact .nil | refine .bit rfl ?_ | refine .chk ⟨_, rfl, rfl⟩ ?_)) rfl rfl ?_
    | refine RL.fin rfl ?_
    | refine W.drawn env_ok hcall (by kernel_rfl) rfl rfl rfl rfl ?_
    | refine W.block ?_
    | refine WR.next ?_
    | refine W.ret ?_
    | refine W.skip ?_
    | refine Then.ret ?_
    | refine Blk.normal ?_
    | refine Blk.ret ?_
    | refine Blk.out ?_
    | refine Blk.on rfl ?_
    | refine Then.exit ?_
    | refine W.exit ?_
    | refine Fin.ret rfl ?_
    | (refine OL.split rfl rfl rfl rfl rfl rfl (fun hb => ?_) (fun hb => ?_) <;> try contradiction)
    | (refine RL.split rfl rfl rfl rfl rfl rfl (fun hb => ?_) (fun hb => ?_) <;> try contradiction)
    | (refine W.cond rfl (fun hc => ?_) (fun hc => ?_) <;> try contradiction)
    | refine OL.quiet rfl (quiet_quo env_sym rfl rfl (by assumption)) rfl ?_
    | refine OL.quiet rfl (quiet_rem env_sym rfl rfl (by assumption)) rfl ?_
    | refine RL.quiet rfl rfl rfl rfl (quiet_quo env_sym rfl rfl (by assumption)) rfl rfl ?_
    | refine RL.quiet rfl rfl rfl rfl (quiet_rem env_sym rfl rfl (by assumption)) rfl rfl ?_
    | refine OL.eff rfl rfl rfl (eff_call rfl rfl rfl rfl (one_self _ _)) rfl ?_)
    · exact .eq (w_bad hc) (HF3 _ _ _)
    · exact .eq (w_kind (by assumption) hc) (HF3 _ _ _)
    · exact .eq (w_time (by assumption) (by assumption) hc) (HF3 _ _ _)
    · exact .eq (w_yes (by assumption) (by assumption) hc) (HF3 _ _ _)
  · refine ⟨_, _, rfl, rfl, rfl, ?_⟩
    have hcall := tblL_ok xs
    repeat' (first
    | refine OL.op rfl ?_
    | refine OL.nil ?_
    | refine Then.normal ?_
    | refine W.seq ?_
    | refine W.region env_ok hcall ?_
    | refine RL.quiet rfl rfl rfl rfl rfl rfl rfl ?_
    | refine RL.skip rfl rfl ?_
    | refine RL.read env_sym rfl rfl rfl rfl rfl rfl (by repeat' (first | exact .nil | exact .bit rfl | refine .chk ⟨_, rfl, rfl⟩ ?_)) rfl ?_
    | refine RL.alloc rfl rfl rfl rfl rfl ?_
    | refine RL.eff env_sym rfl rfl rfl rfl rfl (by repeat' (first | exact .nil | refine .bit rfl ?_ | refine .chk ⟨_, rfl, rfl⟩ ?_)) rfl rfl ?_
    | refine RL.fin rfl ?_
    | refine W.drawn env_ok hcall (by kernel_rfl) rfl rfl rfl rfl ?_
    | refine W.block ?_
    | refine WR.next ?_
    | refine W.ret ?_
    | refine W.skip ?_
    | refine Then.ret ?_
    | refine Blk.normal ?_
    | refine Blk.ret ?_
    | refine Blk.out ?_
    | refine Blk.on rfl ?_
    | refine Then.exit ?_
    | refine W.exit ?_
    | refine Fin.ret rfl ?_
    | (refine OL.split rfl rfl rfl rfl rfl rfl (fun hb => ?_) (fun hb => ?_) <;> try contradiction)
    | (refine RL.split rfl rfl rfl rfl rfl rfl (fun hb => ?_) (fun hb => ?_) <;> try contradiction)
    | (refine W.cond rfl (fun hc => ?_) (fun hc => ?_) <;> try (first | contradiction | exact absurd hc (by rw [long_bad hl]; decide)))
    | refine OL.quiet rfl (quiet_quo env_sym rfl rfl (by assumption)) rfl ?_
    | refine OL.quiet rfl (quiet_rem env_sym rfl rfl (by assumption)) rfl ?_
    | refine RL.quiet rfl rfl rfl rfl (quiet_quo env_sym rfl rfl (by assumption)) rfl rfl ?_
    | refine RL.quiet rfl rfl rfl rfl (quiet_rem env_sym rfl rfl (by assumption)) rfl rfl ?_
    | refine OL.eff rfl rfl rfl (eff_call rfl rfl rfl rfl (one_self _ _)) rfl ?_)
    exact .eq (w_bad hc) (HF3 _ _ _)
def ranX : List Value → Option Value
  | [] => some (.bool true)
  | _ => none
theorem ran_con : Con env 12 (pureX ranX) := con_calls fun args v hv => by
  unfold ranX at hv
  split at hv
  · simp only [Option.some.injEq] at hv
    subst hv
    exact ⟨rfl, rfl, ran_true⟩
  · cases hv
def tblW (xs : List Tr) (kind number t : Int) : List (FuncId × ExtF) := [(17, pureX (one [dat 5 (xs.map tv), .int .i64 kind, .int .i64 number, .int .i64 t] (wholeF xs kind number t))), (18, pureX (one [dat 5 (xs.map tv), .int .i64 kind, .int .i64 number, .int .i64 t] (wholeF xs kind number t))), (12, pureX ranX)]
theorem tblW_ok (xs : List Tr) (kind number t : Int) : CallOk env (calls (tblW xs kind number t)) :=
  calls_ok (.cons (con_one env_ok env_gl (fn := Proofs.Tryz.f17) rfl (HFa xs kind number t) (whole_walk xs kind number t)) (.cons (con_one env_ok env_gl (fn := Proofs.Tryz.f18) rfl (HFa xs kind number t) (wholeR_walk xs kind number t)) (.cons ran_con .nil)))
theorem law_walk (xs : List Tr) (kind number t : Int) : Walk env Proofs.Tryz.f4 [dat 5 (xs.map tv), .int .i64 kind, .int .i64 number, .int .i64 t] (.bool true) := by
  refine ⟨_, _, rfl, rfl, rfl, ?_⟩
  have hcall := tblW_ok xs kind number t
  repeat' (first
    | refine OL.op rfl ?_
    | refine OL.nil ?_
    | refine Then.normal ?_
    | refine W.seq ?_
    | refine W.region env_ok hcall ?_
    | refine RL.quiet rfl rfl rfl rfl rfl rfl rfl ?_
    | refine RL.skip rfl rfl ?_
    | refine RL.read env_sym rfl rfl rfl rfl rfl rfl (by repeat' (first | exact .nil | exact .bit rfl | refine .chk ⟨_, rfl, rfl⟩ ?_)) rfl ?_
    | refine RL.alloc rfl rfl rfl rfl rfl ?_
    | refine RL.eff env_sym rfl rfl rfl rfl rfl (by repeat' (first | exact .nil | refine .bit rfl ?_ | refine .chk ⟨_, rfl, rfl⟩ ?_)) rfl rfl ?_
    | refine RL.fin rfl ?_
    | refine W.drawn env_ok hcall (by kernel_rfl) rfl rfl rfl rfl ?_
    | refine W.block ?_
    | refine WR.next ?_
    | refine W.ret ?_
    | refine W.skip ?_
    | refine Then.ret ?_
    | refine Blk.normal ?_
    | refine Blk.ret ?_
    | refine Blk.out ?_
    | refine Blk.on rfl ?_
    | refine Then.exit ?_
    | refine W.exit ?_
    | refine Fin.ret rfl ?_
    | (refine OL.split rfl rfl rfl rfl rfl rfl (fun hb => ?_) (fun hb => ?_) <;> try contradiction)
    | (refine RL.split rfl rfl rfl rfl rfl rfl (fun hb => ?_) (fun hb => ?_) <;> try contradiction)
    | (refine W.cond rfl (fun hc => ?_) (fun hc => ?_) <;> try contradiction)
    | refine OL.quiet rfl (quiet_quo env_sym rfl rfl (by assumption)) rfl ?_
    | refine OL.quiet rfl (quiet_rem env_sym rfl rfl (by assumption)) rfl ?_
    | refine RL.quiet rfl rfl rfl rfl (quiet_quo env_sym rfl rfl (by assumption)) rfl rfl ?_
    | refine RL.quiet rfl rfl rfl rfl (quiet_rem env_sym rfl rfl (by assumption)) rfl rfl ?_
    | refine OL.eff rfl rfl rfl (eff_call rfl rfl rfl rfl (one_self _ _)) rfl ?_)
  all_goals first
    | exact .eq rfl (.scal rfl)
    | (exfalso; simp at hb)
theorem law_con (xs : List Tr) (kind number t : Int) : Con env 4 (pureX (one [dat 5 (xs.map tv), .int .i64 kind, .int .i64 number, .int .i64 t] (.bool true))) :=
  con_one env_ok env_gl (fn := Proofs.Tryz.f4) rfl (HFa xs kind number t) (law_walk xs kind number t)
/-- The law, called at whatever was read: it returns true, and below the heap's old size nothing has turned. -/
theorem trouble_law (xs : List Tr) (kind number t : Int) (w : World) {v : Value} (hv : VR (sig0 w) (dat 5 (xs.map tv)) v) : Calls Proofs.Tryz.prog 4 #[v, .int .i64 kind, .int .i64 number, .int .i64 t] w fun e w' => e = .returned (.bool true) ∧ RowKit.Below w.heap.size w w' :=
  calls_flat env_gl (law_con xs kind number t) (one_self _ _) rfl w (.cons hv (.cons (.int _ _) (.cons (.int _ _) (.cons (.int _ _) .nil))))
end
end Go.T9
set_option maxRecDepth 1000000
set_option linter.unusedVariables false
namespace Go.T9
open Go Go.AM
theorem opens_tr : Opens Proofs.Tryz.prog 161 (fun acs => ∃ x : Tr, acs = (tv x).cells.toList) := by
  intro H enc w base sp held fuel cs x hx
  obtain ⟨acs, hR, hv⟩ := opens_struct Proofs.Tryz.underlying161 (by kernel_rfl) (.cons (by kernel_rfl) (opens_int Proofs.Tryz.underlying3) (.cons (by kernel_rfl) (opens_int Proofs.Tryz.underlying3) (.cons (by kernel_rfl) (opens_int Proofs.Tryz.underlying3) (.cons (by kernel_rfl) (opens_int Proofs.Tryz.underlying3) (.cons (by kernel_rfl) (opens_int Proofs.Tryz.underlying3) .nil))))) enc w base sp held fuel cs x hx
  obtain ⟨_, _, ⟨a, rfl, _⟩, ⟨_, _, ⟨b, rfl, _⟩, ⟨_, _, ⟨c, rfl, _⟩, ⟨_, _, ⟨d, rfl, _⟩, ⟨_, _, ⟨e, rfl, _⟩, rfl, rfl⟩, rfl⟩, rfl⟩, rfl⟩, rfl⟩ := hR
  exact ⟨_, ⟨⟨a, b, c, d, e⟩, rfl⟩, hv⟩
theorem opens_trs : Opens Proofs.Tryz.prog 38 (fun acs => ∃ xs : List Tr, acs = [.func (.yield 5) ⟨xs.map tv⟩ ⟨[]⟩] ∧ xs.length ≤ maxLen) :=
  opens_slice (sz := 5) (ev := tv) Proofs.Tryz.underlying38 (by kernel_rfl) (by decide) (fun _ => rfl) opens_tr (fun _ h => h)
end Go.T9
