/- A part of the proof. -/
import Derived.Test.YtplabpmicdbglaaGreatDoorU1
import Derived.KernelRfl
set_option maxRecDepth 1000000
set_option linter.unusedVariables false
set_option linter.unusedSimpArgs false
namespace Go.T9
open Go Go.AM
noncomputable section
def bkV (a : List Value) (i : Int) : Bool := decide (0 < i.toNat) && decide ((tyAt a i).se < (tyAt a ((i.toNat - 1 : Nat) : Int)).se)
def tfV (u : Int) (a : List Value) (i : Int) : Int := bif rngB (tyAt a i) u then lastE (tyAt a i) u (bkV a i) else 9
def tfX : List Value → Option Value
  | [.agg ⟨[.int .i64 u, .func (.yield 16) ⟨a⟩ ⟨[]⟩, .func (.yield 7) ⟨_⟩ ⟨[]⟩]⟩, .int .i64 i] => some (.int .i64 (tfV u a i))
  | _ => none
def tfPre : List Value → Option Prop
  | [.agg ⟨[.int .i64 _, .func (.yield 16) ⟨a⟩ ⟨[]⟩, .func (.yield 7) ⟨b⟩ ⟨[]⟩]⟩, .int .i64 i] => some (∃ (ts : List Ty) (vs : List Vi) (n : Nat), a = ts.map tyv ∧ b = vs.map viv ∧ i = (n : Int) ∧ n < ts.length ∧ ts.length ≤ 20000)
  | _ => none
theorem HF_log (u : Int) (ts : List Ty) (vs : List Vi) : HF (logv u (ts.map tyv) (vs.map viv)) := .agg (HF.cons (HFi _ _) (HF.cons (HF_tys ts) (HF.cons (HF_vis vs) HF.nil)))
theorem tf_tab : ∀ args A p v A', pureR tfPre tfX args A = some (p, v, A') → PH p → CallAt env 36 args A v A' := walk_tab env_ok env_gl (fn := Proofs.Tryz.f36) rfl fun args v h hp => by
  unfold tfX at h
  split at h
  · simp only [Option.some.injEq] at h
    subst h
    obtain ⟨ts, vs, n, rfl, rfl, rfl, hn, ht⟩ := hp
    refine ⟨HF.cons (HF_log _ ts vs) (HF.cons (HFi _ _) HF.nil), ?_⟩
    have := TF_walk ‹_› ts vs n hn ht
    simp only [tfV, bkV, bkB, Int.toNat_natCast, ty_at hn] at this ⊢
    exact this
  · cases h
def vfX : List Value → Option Value
  | [.agg ⟨[.int .i64 u, .func (.yield 16) ⟨_⟩ ⟨[]⟩, .func (.yield 7) ⟨_⟩ ⟨[]⟩]⟩, .agg ⟨[.int .i64 x0, .int .i64 x1, .int .i64 x2, .int .i64 x3, .int .i64 x4, .int .i64 x5, .string x6]⟩] => some (.int .i64 (visF ⟨x0, x1, x2, x3, x4, x5, x6⟩ u))
  | _ => none
def vfPre : List Value → Option Prop
  | [.agg ⟨[.int .i64 _, .func (.yield 16) ⟨a⟩ ⟨[]⟩, .func (.yield 7) ⟨b⟩ ⟨[]⟩]⟩, .agg ⟨[.int .i64 _, .int .i64 _, .int .i64 _, .int .i64 _, .int .i64 _, .int .i64 _, .string _]⟩] => some (∃ (ts : List Ty) (vs : List Vi), a = ts.map tyv ∧ b = vs.map viv)
  | _ => none
theorem vf_tab : ∀ args A p v A', pureR vfPre vfX args A = some (p, v, A') → PH p → CallAt env 37 args A v A' := walk_tab env_ok env_gl (fn := Proofs.Tryz.f37) rfl fun args v h hp => by
  unfold vfX at h
  split at h
  · simp only [Option.some.injEq] at h
    subst h
    obtain ⟨ts, vs, rfl, rfl⟩ := hp
    exact ⟨HF.cons (HF_log _ ts vs) (HF.cons (HF_vi ⟨_, _, _, _, _, _, _⟩) HF.nil), visR_walk ⟨_, _, _, _, _, _, _⟩ _ ts vs⟩
  · cases h
def tabR : Tab := [(36, pureR tfPre tfX), (37, pureR vfPre vfX), (32, pureR (fun _ => none) outsideX)]
theorem tabR_ok : TabOk env tabR := .cons tf_tab (.cons vf_tab (.cons (con_tab outside_con) .nil))
def XR : SX := ⟨env, tabR, elL, fun k => bif Nat.beq k 6 then .auto [] [1, 23, 24] else .auto [] [1, 35, 36, 37]⟩
theorem XR_ok : XR.Ok := ⟨env_ok, env_sym, env_gl, tabR_ok⟩
def frR1 (ts : List Value) (i : Nat) : T Value := (.node (.node (.node (.node .leaf none (.node .leaf (some (.int .i64 ts.length)) .leaf)) none .leaf) (some (.pointer (some ⟨0, 0, none⟩))) .leaf) none (.node (.node (.node .leaf none (.node .leaf (some (.int .i64 i)) .leaf)) none .leaf) none .leaf))
def frR2 (vs : List Value) (i : Nat) : T Value := (.node (.node (.node .leaf none (.node (.node (.node .leaf (some (dat 7 vs)) .leaf) none .leaf) none .leaf)) (some (.pointer (some ⟨0, 0, none⟩))) (.node .leaf none (.node (.node (.node .leaf (some (.int .i64 i)) .leaf) none .leaf) none .leaf))) none (.node (.node .leaf none (.node (.node (.node .leaf (some (.int .i64 vs.length)) .leaf) none .leaf) none .leaf)) none .leaf))
def jRL (Q : Value → Prop) (QA : KV) (u : Int) (ts vs : List Value) : Prop := sxFn XR 1 Proofs.Tryz.f10 [logv u ts vs] (leafK Q QA)
def jRL1 (Q : Value → Prop) (QA : KV) (again : KF) (u : Int) (ts vs : List Value) (i : Nat) : Prop := sxStepA XR 1 Proofs.Tryz.f10 [1, 1, 1, 0, 1, 0] (leafK Q QA) [] [1, 23, 24] again (frR1 ts i) (hL u ts vs)
def jRL2 (Q : Value → Prop) (QA : KV) (again : KF) (u : Int) (ts vs : List Value) (i : Nat) : Prop := sxStepA XR 1 Proofs.Tryz.f10 [1, 1, 1, 1, 0, 1, 0] (leafK Q QA) [] [1, 35, 36, 37] again (frR2 vs i) (hL u ts vs)
end
end Go.T9
set_option maxRecDepth 1000000
set_option linter.unusedVariables false
set_option linter.unusedSimpArgs false
namespace Go.T9
open Go Go.AM
noncomputable section
theorem jRL_nf (Q : Go.Value → Prop) (QA : KV) (u : Int) (ts : List Go.Value) (vs : List Go.Value) : jRL Q QA u ts vs = (Sp (!(decide (0 ≤ u) && decide (u ≤ 1000000000000))) (Q (Value.int IntKind.i64 9)) (Sp (decide (20000 < (↑(List.length ts) : Int))) (Q (Value.int IntKind.i64 3)) (Sp (decide (100000 < (↑(List.length vs) : Int))) (Q (Value.int IntKind.i64 3)) (HF (Value.func (Go.Fn.yield 16) (Array.mk ts) (Array.mk [])) ∧ HF (Value.func (Go.Fn.yield 7) (Array.mk vs) (Array.mk [])) ∧ LAt XR 1 (Go.Func.ntmps Go.Proofs.Tryz.f10) (bodyOf Go.Proofs.Tryz.f10) [1, 1, 1, 0, 1, 0] (finK (SX.E XR) (Array.toList (Go.Func.results Go.Proofs.Tryz.f10)) (leafK Q QA)) (T.node (T.node (T.node (T.node T.leaf Option.none (T.node T.leaf (Option.some (Value.int IntKind.i64 (↑(List.length ts) : Int))) T.leaf)) Option.none T.leaf) (Option.some (Value.pointer (Option.some (Go.Addr.mk 0 0 Option.none)))) T.leaf) Option.none (T.node (T.node (T.node T.leaf Option.none (T.node T.leaf (Option.some (Value.int IntKind.i64 0)) T.leaf)) Option.none T.leaf) Option.none T.leaf)) (AH.mk (T.node T.leaf (Option.some (AObj.cells [Value.int IntKind.i64 u, Value.func (Go.Fn.yield 16) (Array.mk ts) (Array.mk []), Value.func (Go.Fn.yield 7) (Array.mk vs) (Array.mk [])] 25)) T.leaf) 1))))) := by kernel_rfl
theorem jRL1_nf (Q : Go.Value → Prop) (QA : KV) (again : KF) (u : Int) (ts : List Go.Value) (vs : List Go.Value) (i : Nat) : jRL1 Q QA again u ts vs i = (Sp (decide ((↑i : Int) < (↑(List.length ts) : Int))) ((∃ (ts_1 : List Ty), ∃ (vs_1 : List Vi), ∃ (n : Nat), ts = List.map tyv ts_1 ∧ vs = List.map viv vs_1 ∧ (↑i : Int) = (↑n : Int) ∧ n < List.length ts_1 ∧ List.length ts_1 ≤ 20000) ∧ Sp (!decide (tfV u ts (↑i : Int) = 0)) (Q (Value.int IntKind.i64 (tfV u ts (↑i : Int)))) (HF (Value.func (Go.Fn.yield 16) (Array.mk ts) (Array.mk [])) ∧ HF (Value.func (Go.Fn.yield 7) (Array.mk vs) (Array.mk [])) ∧ again (T.node (T.node (T.node (T.node T.leaf Option.none (T.node T.leaf (Option.some (Value.int IntKind.i64 (↑(List.length ts) : Int))) T.leaf)) Option.none T.leaf) (Option.some (Value.pointer (Option.some (Go.Addr.mk 0 0 Option.none)))) T.leaf) Option.none (T.node (T.node (T.node T.leaf Option.none (T.node T.leaf (Option.some (Value.int IntKind.i64 (IntKind.wrap IntKind.i64 ((↑i : Int) + 1)))) T.leaf)) Option.none T.leaf) Option.none T.leaf)) (AH.mk (T.node T.leaf (Option.some (AObj.cells [Value.int IntKind.i64 u, Value.func (Go.Fn.yield 16) (Array.mk ts) (Array.mk []), Value.func (Go.Fn.yield 7) (Array.mk vs) (Array.mk [])] 25)) T.leaf) 1))) (HF (Value.func (Go.Fn.yield 7) (Array.mk vs) (Array.mk [])) ∧ HF (Value.func (Go.Fn.yield 16) (Array.mk ts) (Array.mk [])) ∧ HF (Value.func (Go.Fn.yield 7) (Array.mk vs) (Array.mk [])) ∧ LAt XR 1 (Go.Func.ntmps Go.Proofs.Tryz.f10) (bodyOf Go.Proofs.Tryz.f10) [1, 1, 1, 1, 0, 1, 0] (finK (SX.E XR) (Array.toList (Go.Func.results Go.Proofs.Tryz.f10)) (leafK Q QA)) (T.node (T.node (T.node T.leaf Option.none (T.node (T.node (T.node T.leaf (Option.some (Value.func (Go.Fn.yield 7) (Array.mk vs) (Array.mk []))) T.leaf) Option.none T.leaf) Option.none T.leaf)) (Option.some (Value.pointer (Option.some (Go.Addr.mk 0 0 Option.none)))) (T.node T.leaf Option.none (T.node (T.node (T.node T.leaf (Option.some (Value.int IntKind.i64 0)) T.leaf) Option.none T.leaf) Option.none T.leaf))) Option.none (T.node (T.node T.leaf Option.none (T.node (T.node (T.node T.leaf (Option.some (Value.int IntKind.i64 (↑(List.length vs) : Int))) T.leaf) Option.none T.leaf) Option.none T.leaf)) Option.none T.leaf)) (AH.mk (T.node T.leaf (Option.some (AObj.cells [Value.int IntKind.i64 u, Value.func (Go.Fn.yield 16) (Array.mk ts) (Array.mk []), Value.func (Go.Fn.yield 7) (Array.mk vs) (Array.mk [])] 25)) T.leaf) 1))) := by kernel_rfl
theorem jRL2_nf (Q : Go.Value → Prop) (QA : KV) (again : KF) (u : Int) (ts : List Go.Value) (vs : List Go.Value) (i : Nat) : jRL2 Q QA again u ts vs i = (Sp (decide ((↑i : Int) < (↑(List.length vs) : Int))) ((0 ≤ (↑i : Int) ∧ (↑i : Int) < (↑(List.length vs) : Int)) ∧ nth vs (Int.toNat (↑(Int.toNat (↑i : Int)) : Int)) = Option.some (Value.agg (Array.mk [Value.int IntKind.i64 (Vi.g (viAt vs (↑(Int.toNat (↑i : Int)) : Int))), Value.int IntKind.i64 (Vi.u (viAt vs (↑(Int.toNat (↑i : Int)) : Int))), Value.int IntKind.i64 (Vi.fr (viAt vs (↑(Int.toNat (↑i : Int)) : Int))), Value.int IntKind.i64 (Vi.to (viAt vs (↑(Int.toNat (↑i : Int)) : Int))), Value.int IntKind.i64 (Vi.en (viAt vs (↑(Int.toNat (↑i : Int)) : Int))), Value.int IntKind.i64 (Vi.er (viAt vs (↑(Int.toNat (↑i : Int)) : Int))), Value.string (Vi.tx (viAt vs (↑(Int.toNat (↑i : Int)) : Int)))])) ∧ (∃ (ts_1 : List Ty), ∃ (vs_1 : List Vi), ts = List.map tyv ts_1 ∧ vs = List.map viv vs_1) ∧ Sp (!decide (visF (viAt vs (↑(Int.toNat (↑i : Int)) : Int)) u = 0)) (Q (Value.int IntKind.i64 (visF (viAt vs (↑(Int.toNat (↑i : Int)) : Int)) u))) (HF (Value.func (Go.Fn.yield 7) (Array.mk vs) (Array.mk [])) ∧ HF (Value.func (Go.Fn.yield 16) (Array.mk ts) (Array.mk [])) ∧ HF (Value.func (Go.Fn.yield 7) (Array.mk vs) (Array.mk [])) ∧ again (T.node (T.node (T.node T.leaf Option.none (T.node (T.node (T.node T.leaf (Option.some (Value.func (Go.Fn.yield 7) (Array.mk vs) (Array.mk []))) T.leaf) Option.none T.leaf) Option.none T.leaf)) (Option.some (Value.pointer (Option.some (Go.Addr.mk 0 0 Option.none)))) (T.node T.leaf Option.none (T.node (T.node (T.node T.leaf (Option.some (Value.int IntKind.i64 (IntKind.wrap IntKind.i64 ((↑i : Int) + 1)))) T.leaf) Option.none T.leaf) Option.none T.leaf))) Option.none (T.node (T.node T.leaf Option.none (T.node (T.node (T.node T.leaf (Option.some (Value.int IntKind.i64 (↑(List.length vs) : Int))) T.leaf) Option.none T.leaf) Option.none T.leaf)) Option.none T.leaf)) (AH.mk (T.node T.leaf (Option.some (AObj.cells [Value.int IntKind.i64 u, Value.func (Go.Fn.yield 16) (Array.mk ts) (Array.mk []), Value.func (Go.Fn.yield 7) (Array.mk vs) (Array.mk [])] 25)) T.leaf) 1))) (Q (Value.int IntKind.i64 0))) := by kernel_rfl
theorem tf_shape (x : Ty) (u : Int) (b : Bool) : (bif rngB x u then lastE x u b else 9) = bif decide (chkT x u = 0) then (bif b then 10 else 0) else chkT x u := by
  unfold lastE chkT
  cases rngB x u <;> cases ordB x u <;> cases frmB x <;> cases endB x u <;> cases b <;> rfl
theorem bkV_eq {ts : List Ty} {n : Nat} (h : n < ts.length) : bkV (ts.map tyv) (n : Int) = lessP (prevS ts n) ts[n].se := by
  simp only [bkV, Int.toNat_natCast, ty_at h]
  cases n with
  | zero => rfl
  | succ m =>
    have hm : m < ts.length := by omega
    simp only [Nat.add_sub_cancel, ty_at hm, prevS, List.getElem?_eq_getElem hm, Option.map_some, lessP]
    simp
theorem tfV_eq {u : Int} {ts : List Ty} {n : Nat} (h : n < ts.length) : tfV u (ts.map tyv) (n : Int) = bif decide (chkT ts[n] u = 0) then (bif lessP (prevS ts n) ts[n].se then 10 else 0) else chkT ts[n] u := by
  simp only [tfV, ty_at h, bkV_eq h, tf_shape]
theorem RL_loop2 (Q : Value → Prop) (QA : KV) (u : Int) (ts : List Ty) (vs : List Vi) (hv : vs.length ≤ 100000) (hQ : Q (.int .i64 (chkVs u vs))) :
    LAt XR 1 (Func.ntmps Proofs.Tryz.f10) (bodyOf Proofs.Tryz.f10) [1, 1, 1, 1, 0, 1, 0] (finK XR.E (Proofs.Tryz.f10.results).toList (leafK Q QA)) (frR2 (vs.map viv) 0) (hL u (ts.map tyv) (vs.map viv)) := by
  refine LAt.stepA XR_ok [] [1, 35, 36, 37] (by kernel_rfl) (fun k F A => ∃ i : Nat, F = frR2 (vs.map viv) i ∧ A = hL u (ts.map tyv) (vs.map viv) ∧ i + k = vs.length ∧ chkVs u (vs.drop i) = chkVs u vs) ?_ (k := vs.length) ⟨0, rfl, rfl, by simp, by simp⟩
  rintro k F A ⟨i, rfl, rfl, hk, he⟩
  refine (jRL2_nf _ _ _ u _ _ i).mpr ?_
  refine Sp.intro (fun h => ?_) (fun h => ?_)
  · have hlt : i < vs.length := by simpa using h
    have hat := vi_at hlt
    rw [chkVs_step hlt] at he
    refine ⟨vi_b hlt, vi_c hlt, ⟨ts, vs, rfl, rfl⟩, ?_⟩
    simp only [Int.toNat_natCast, hat]
    refine Sp.intro (fun h => ?_) (fun h => ⟨HF_vis vs, HF_tys ts, HF_vis vs, k - 1, by omega, i + 1, ?_, rfl, by omega, ?_⟩)
    · rw [Bool.not_eq_true'] at h
      rw [h] at he
      rw [← he] at hQ
      exact hQ
    · rw [idx_succ (by omega)]
      rfl
    · rw [Bool.not_eq_false'] at h
      rw [h] at he
      exact he
  · have : vs.drop i = [] := List.drop_eq_nil_of_le (by simp at h; omega)
    rw [this] at he
    rw [← he] at hQ
    exact hQ
theorem RL_loop1 (Q : Value → Prop) (QA : KV) (u : Int) (ts : List Ty) (vs : List Vi) (ht : ts.length ≤ 20000) (hv : vs.length ≤ 100000) (hQ : Q (.int .i64 (bif decide (chkTs u none ts = 0) then chkVs u vs else chkTs u none ts))) :
    LAt XR 1 (Func.ntmps Proofs.Tryz.f10) (bodyOf Proofs.Tryz.f10) [1, 1, 1, 0, 1, 0] (finK XR.E (Proofs.Tryz.f10.results).toList (leafK Q QA)) (frR1 (ts.map tyv) 0) (hL u (ts.map tyv) (vs.map viv)) := by
  refine LAt.stepA XR_ok [] [1, 23, 24] (by kernel_rfl) (fun k F A => ∃ i : Nat, F = frR1 (ts.map tyv) i ∧ A = hL u (ts.map tyv) (vs.map viv) ∧ i + k = ts.length ∧ chkTs u (prevS ts i) (ts.drop i) = chkTs u none ts) ?_ (k := ts.length) ⟨0, rfl, rfl, by simp, by simp [prevS]⟩
  rintro k F A ⟨i, rfl, rfl, hk, he⟩
  refine (jRL1_nf _ _ _ u _ _ i).mpr ?_
  refine Sp.intro (fun h => ?_) (fun h => ?_)
  · have hlt : i < ts.length := by simpa using h
    rw [chkTs_step hlt] at he
    refine ⟨⟨ts, vs, i, rfl, rfl, rfl, hlt, ht⟩, ?_⟩
    rw [tfV_eq hlt]
    generalize hc : chkT ts[i] u = c at he ⊢
    generalize hb : lessP (prevS ts i) ts[i].se = b at he ⊢
    refine Sp.intro (fun h => ?_) (fun h => ⟨HF_tys ts, HF_vis vs, k - 1, by omega, i + 1, ?_, rfl, by omega, ?_⟩)
    · have key : (bif decide (c = 0) then (bif b then 10 else 0) else c) = chkTs u none ts := by
        rw [← he]
        cases hd : decide (c = 0) with
        | false => rfl
        | true =>
          cases b with
          | true => rfl
          | false => rw [hd] at h; simp at h
      have e0 : decide (chkTs u none ts = 0) = false := by rw [← key]; simpa using h
      rw [e0] at hQ
      rw [← key] at hQ
      exact hQ
    · rw [idx_succ (by omega)]
      rfl
    · rw [← he]
      cases hd : decide (c = 0) with
      | false => rw [hd] at h; simp only [cond_false] at h; simp [hd] at h
      | true =>
        cases b with
        | true => rw [hd] at h; simp at h
        | false => rfl
  · have : ts.drop i = [] := List.drop_eq_nil_of_le (by simp at h; omega)
    rw [this] at he
    have e0 : chkTs u none ts = 0 := he.symm
    rw [e0] at hQ
    exact ⟨HF_vis vs, HF_tys ts, HF_vis vs, RL_loop2 Q QA u ts vs hv hQ⟩
theorem RL_walk (u : Int) (ts : List Ty) (vs : List Vi) : Walk env Proofs.Tryz.f10 [logv u (ts.map tyv) (vs.map viv)] (.int .i64 (logE u ts vs)) := by
  refine sxFn_plain XR_ok (d := 1) (HFi _ _) ((jRL_nf _ _ u _ _).mpr ?_)
  refine Sp.intro (fun h => ?_) (fun h => Sp.intro (fun h1 => ?_) (fun h1 => Sp.intro (fun h2 => ?_) (fun h2 => ?_)))
  · rw [Bool.not_eq_true'] at h
    exact congrArg (Value.int .i64) (by simp only [logE, isIn, h, cond_false])
  · rw [Bool.not_eq_false'] at h
    simp only [List.length_map, decide_eq_true_eq] at h1
    have : decide (20000 < ts.length) = true := by simp; omega
    exact congrArg (Value.int .i64) (by simp only [logE, isIn, h, this, Bool.true_or, cond_true])
  · rw [Bool.not_eq_false'] at h
    simp only [List.length_map, decide_eq_true_eq] at h2
    have : decide (100000 < vs.length) = true := by simp; omega
    exact congrArg (Value.int .i64) (by simp only [logE, isIn, h, this, Bool.or_true, cond_true])
  · rw [Bool.not_eq_false'] at h
    simp only [List.length_map, decide_eq_false_iff_not] at h1 h2
    have e1 : decide (20000 < ts.length) = false := by simp; omega
    have e2 : decide (100000 < vs.length) = false := by simp; omega
    refine ⟨HF_tys ts, HF_vis vs, RL_loop1 _ _ u ts vs (by omega) (by omega) ?_⟩
    exact congrArg (Value.int .i64) (by simp only [logE, isIn, h, e1, e2, Bool.or_false, cond_true, cond_false])
/-! ### Cut -/
def clX (ts : List Ty) (vs : List Vi) : List Value → Option Value
  | [.agg ⟨[.int .i64 u, .func (.yield 16) ⟨_⟩ ⟨[]⟩, .func (.yield 7) ⟨_⟩ ⟨[]⟩]⟩] => some (.int .i64 (logE u ts vs))
  | _ => none
def clPre (ts : List Ty) (vs : List Vi) : List Value → Option Prop
  | [.agg ⟨[.int .i64 _, .func (.yield 16) ⟨a⟩ ⟨[]⟩, .func (.yield 7) ⟨b⟩ ⟨[]⟩]⟩] => some (a = ts.map tyv ∧ b = vs.map viv)
  | _ => none
theorem clW_tab (ts : List Ty) (vs : List Vi) : ∀ args A p v A', pureR (clPre ts vs) (clX ts vs) args A = some (p, v, A') → PH p → CallAt env 9 args A v A' := walk_tab env_ok env_gl (fn := Proofs.Tryz.f9) rfl fun args v h hp => by
  unfold clX at h
  split at h
  · simp only [Option.some.injEq] at h
    subst h
    obtain ⟨rfl, rfl⟩ := hp
    exact ⟨HF.cons (HF_log _ ts vs) HF.nil, CL_walk _ ts vs⟩
  · cases h
theorem clR_tab (ts : List Ty) (vs : List Vi) : ∀ args A p v A', pureR (clPre ts vs) (clX ts vs) args A = some (p, v, A') → PH p → CallAt env 10 args A v A' := walk_tab env_ok env_gl (fn := Proofs.Tryz.f10) rfl fun args v h hp => by
  unfold clX at h
  split at h
  · simp only [Option.some.injEq] at h
    subst h
    obtain ⟨rfl, rfl⟩ := hp
    exact ⟨HF.cons (HF_log _ ts vs) HF.nil, RL_walk _ ts vs⟩
  · cases h
def elC : El := { elL with app := true }
def tabW (ts : List Ty) (vs : List Vi) : Tab := [(9, pureR (clPre ts vs) (clX ts vs)), (31, pureR (fun _ => none) cutTX), (30, pureR (fun _ => none) insideX)]
theorem tabW_ok (ts : List Ty) (vs : List Vi) : TabOk env (tabW ts vs) := .cons (clW_tab ts vs) (.cons cutT_tab (.cons (con_tab inside_con) .nil))
def XW (ts : List Ty) (vs : List Vi) : SX := ⟨env, tabW ts vs, elC, fun k => bif Nat.beq k 8 then .auto [59, 62] [1, 2, 4, 7, 28, 29, 30] else .auto [59, 62] [1, 4, 7, 48, 49, 50]⟩
theorem XW_ok (ts : List Ty) (vs : List Vi) : (XW ts vs).Ok := ⟨env_ok, env_sym, env_gl, tabW_ok ts vs⟩
def frC1 (t : Int) (ts : List Value) (i : Nat) : T Value := (.node (.node (.node (.node .leaf (some (.pointer (some ⟨2, 0, none⟩))) .leaf) none .leaf) (some (.int .i64 t)) (.node .leaf none (.node .leaf none (.node .leaf (some (.int .i64 ts.length)) .leaf)))) none (.node (.node .leaf (some (.pointer (some ⟨1, 0, none⟩))) (.node .leaf none (.node .leaf (some (dat 16 ts)) .leaf))) (some (.pointer (some ⟨0, 0, none⟩))) (.node .leaf none (.node .leaf none (.node .leaf (some (.int .i64 i)) .leaf)))))
def zL : List Value := [.int .i64 0, .slice none 0 0, .slice none 0 0]
def hN (u m : Int) (ts vs : List Value) : AH := ⟨(.node (.node .leaf (some (.cells zL 25)) .leaf) (some (.cells [.int .i64 u, dat 16 ts, dat 7 vs] 25)) (.node .leaf (some (.cells [.int .i64 m, .slice none 0 0, .slice none 0 0] 25)) .leaf)), 3⟩
def hC (u m : Int) (ts vs : List Value) (c : List Value) (n : Nat) : AH := ⟨(.node (.node (.node .leaf (some (.cells c 59)) .leaf) (some (.cells zL 25)) .leaf) (some (.cells [.int .i64 u, dat 16 ts, dat 7 vs] 25)) (.node .leaf (some (.cells [.int .i64 m, .slice (some ⟨3, 0, none⟩) n unk, .slice none 0 0] 25)) .leaf)), 4⟩
def jCW (K : KV) (u t : Int) (ts : List Ty) (vs : List Vi) : Prop := sxFn (XW ts vs) 1 Proofs.Tryz.f7 [logv u (ts.map tyv) (vs.map viv), .int .i64 t] K
def jCWn (K : KV) (again : KF) (u m t : Int) (ts : List Ty) (vs : List Vi) (i : Nat) : Prop := sxStepA (XW ts vs) 1 Proofs.Tryz.f7 [1, 1, 1, 1, 0, 1, 0] K [59, 62] [1, 2, 4, 7, 28, 29, 30] again (frC1 t (ts.map tyv) i) (hN u m (ts.map tyv) (vs.map viv))
def jCWb (K : KV) (again : KF) (u m t : Int) (ts : List Ty) (vs : List Vi) (i : Nat) (c : List Value) (n : Nat) : Prop := sxStepA (XW ts vs) 1 Proofs.Tryz.f7 [1, 1, 1, 1, 0, 1, 0] K [59, 62] [1, 2, 4, 7, 28, 29, 30] again (frC1 t (ts.map tyv) i) (hC u m (ts.map tyv) (vs.map viv) c n)
end
end Go.T9
set_option maxRecDepth 1000000
set_option linter.unusedVariables false
set_option linter.unusedSimpArgs false
namespace Go.T9
open Go Go.AM
noncomputable section
theorem jCW_nf (K : KV) (u : Int) (t : Int) (ts : List Ty) (vs : List Vi) : jCW K u t ts vs = ((List.map tyv ts = List.map tyv ts ∧ List.map viv vs = List.map viv vs) ∧ Sp (!decide (logE u ts vs = 0)) (K (Value.tuple (Array.mk [Value.agg (Array.mk [Value.int IntKind.i64 0, Value.slice Option.none 0 0, Value.slice Option.none 0 0]), Value.int IntKind.i64 (logE u ts vs)])) (AH.mk (T.node (T.node T.leaf (Option.some (AObj.cells [Value.int IntKind.i64 0, Value.slice Option.none 0 0, Value.slice Option.none 0 0] 25)) T.leaf) (Option.some (AObj.cells [Value.int IntKind.i64 u, Value.func (Go.Fn.yield 16) (Array.mk (List.map tyv ts)) (Array.mk []), Value.func (Go.Fn.yield 7) (Array.mk (List.map viv vs)) (Array.mk [])] 25)) T.leaf) 2)) (Sp (!(decide (0 ≤ t) && decide (t ≤ 1000000000000))) (K (Value.tuple (Array.mk [Value.agg (Array.mk [Value.int IntKind.i64 0, Value.slice Option.none 0 0, Value.slice Option.none 0 0]), Value.int IntKind.i64 9])) (AH.mk (T.node (T.node T.leaf (Option.some (AObj.cells [Value.int IntKind.i64 0, Value.slice Option.none 0 0, Value.slice Option.none 0 0] 25)) T.leaf) (Option.some (AObj.cells [Value.int IntKind.i64 u, Value.func (Go.Fn.yield 16) (Array.mk (List.map tyv ts)) (Array.mk []), Value.func (Go.Fn.yield 7) (Array.mk (List.map viv vs)) (Array.mk [])] 25)) T.leaf) 2)) (HF (Value.func (Go.Fn.yield 16) (Array.mk (List.map tyv ts)) (Array.mk [])) ∧ HF (Value.func (Go.Fn.yield 16) (Array.mk (List.map tyv ts)) (Array.mk [])) ∧ HF (Value.func (Go.Fn.yield 7) (Array.mk (List.map viv vs)) (Array.mk [])) ∧ LAt (XW ts vs) 1 (Go.Func.ntmps Go.Proofs.Tryz.f7) (bodyOf Go.Proofs.Tryz.f7) [1, 1, 1, 1, 0, 1, 0] (finK (SX.E (XW ts vs)) (Array.toList (Go.Func.results Go.Proofs.Tryz.f7)) K) (T.node (T.node (T.node (T.node T.leaf (Option.some (Value.pointer (Option.some (Go.Addr.mk 2 0 Option.none)))) T.leaf) Option.none T.leaf) (Option.some (Value.int IntKind.i64 t)) (T.node T.leaf Option.none (T.node T.leaf Option.none (T.node T.leaf (Option.some (Value.int IntKind.i64 (↑(List.length (List.map tyv ts)) : Int))) T.leaf)))) Option.none (T.node (T.node T.leaf (Option.some (Value.pointer (Option.some (Go.Addr.mk 1 0 Option.none)))) (T.node T.leaf Option.none (T.node T.leaf (Option.some (Value.func (Go.Fn.yield 16) (Array.mk (List.map tyv ts)) (Array.mk []))) T.leaf))) (Option.some (Value.pointer (Option.some (Go.Addr.mk 0 0 Option.none)))) (T.node T.leaf Option.none (T.node T.leaf Option.none (T.node T.leaf (Option.some (Value.int IntKind.i64 0)) T.leaf))))) (AH.mk (T.node (T.node T.leaf (Option.some (AObj.cells [Value.int IntKind.i64 0, Value.slice Option.none 0 0, Value.slice Option.none 0 0] 25)) T.leaf) (Option.some (AObj.cells [Value.int IntKind.i64 u, Value.func (Go.Fn.yield 16) (Array.mk (List.map tyv ts)) (Array.mk []), Value.func (Go.Fn.yield 7) (Array.mk (List.map viv vs)) (Array.mk [])] 25)) (T.node T.leaf (Option.some (AObj.cells [Value.int IntKind.i64 (Min.min u t), Value.slice Option.none 0 0, Value.slice Option.none 0 0] 25)) T.leaf)) 3)))) := by kernel_rfl
theorem jCWn_nf (K : KV) (again : KF) (u : Int) (m : Int) (t : Int) (ts : List Ty) (vs : List Vi) (i : Nat) : jCWn K again u m t ts vs i = (Sp (decide ((↑i : Int) < (↑(List.length (List.map tyv ts)) : Int))) ((0 ≤ (↑i : Int) ∧ (↑i : Int) < (↑(List.length (List.map tyv ts)) : Int)) ∧ nth (List.map tyv ts) (Int.toNat (↑(Int.toNat (↑i : Int)) : Int)) = Option.some (Value.agg (Array.mk [Value.int IntKind.i64 (Ty.g (tyAt (List.map tyv ts) (↑(Int.toNat (↑i : Int)) : Int))), Value.int IntKind.i64 (Ty.u (tyAt (List.map tyv ts) (↑(Int.toNat (↑i : Int)) : Int))), Value.int IntKind.i64 (Ty.a (tyAt (List.map tyv ts) (↑(Int.toNat (↑i : Int)) : Int))), Value.int IntKind.i64 (Ty.y (tyAt (List.map tyv ts) (↑(Int.toNat (↑i : Int)) : Int))), Value.string (Ty.nm (tyAt (List.map tyv ts) (↑(Int.toNat (↑i : Int)) : Int))), Value.int IntKind.i64 (Ty.sn (tyAt (List.map tyv ts) (↑(Int.toNat (↑i : Int)) : Int))), Value.int IntKind.i64 (Ty.se (tyAt (List.map tyv ts) (↑(Int.toNat (↑i : Int)) : Int))), Value.int IntKind.i64 (Ty.ca (tyAt (List.map tyv ts) (↑(Int.toNat (↑i : Int)) : Int))), Value.int IntKind.i64 (Ty.be (tyAt (List.map tyv ts) (↑(Int.toNat (↑i : Int)) : Int))), Value.int IntKind.i64 (Ty.le (tyAt (List.map tyv ts) (↑(Int.toNat (↑i : Int)) : Int))), Value.int IntKind.i64 (Ty.ba (tyAt (List.map tyv ts) (↑(Int.toNat (↑i : Int)) : Int))), Value.int IntKind.i64 (Ty.en (tyAt (List.map tyv ts) (↑(Int.toNat (↑i : Int)) : Int))), Value.int IntKind.i64 (Ty.oc (tyAt (List.map tyv ts) (↑(Int.toNat (↑i : Int)) : Int))), Value.int IntKind.i64 (Ty.su (tyAt (List.map tyv ts) (↑(Int.toNat (↑i : Int)) : Int))), Value.int IntKind.i64 (Ty.sb (tyAt (List.map tyv ts) (↑(Int.toNat (↑i : Int)) : Int))), Value.int IntKind.i64 (Ty.fa (tyAt (List.map tyv ts) (↑(Int.toNat (↑i : Int)) : Int)))])) ∧ Sp (decide (Ty.se (tyAt (List.map tyv ts) (↑(Int.toNat (↑i : Int)) : Int)) ≤ t)) (Value.slice Option.none 0 0 = Value.slice Option.none 0 0 ∧ HF (Value.func (Go.Fn.yield 16) (Array.mk (List.map tyv ts)) (Array.mk [])) ∧ HF (Value.func (Go.Fn.yield 16) (Array.mk (List.map tyv ts)) (Array.mk [])) ∧ HF (Value.func (Go.Fn.yield 7) (Array.mk (List.map viv vs)) (Array.mk [])) ∧ HF (Value.agg (Array.mk [Value.int IntKind.i64 (Ty.g (cutT t (tyAt (List.map tyv ts) (↑(Int.toNat (↑i : Int)) : Int)))), Value.int IntKind.i64 (Ty.u (cutT t (tyAt (List.map tyv ts) (↑(Int.toNat (↑i : Int)) : Int)))), Value.int IntKind.i64 (Ty.a (cutT t (tyAt (List.map tyv ts) (↑(Int.toNat (↑i : Int)) : Int)))), Value.int IntKind.i64 (Ty.y (cutT t (tyAt (List.map tyv ts) (↑(Int.toNat (↑i : Int)) : Int)))), Value.string (Ty.nm (cutT t (tyAt (List.map tyv ts) (↑(Int.toNat (↑i : Int)) : Int)))), Value.int IntKind.i64 (Ty.sn (cutT t (tyAt (List.map tyv ts) (↑(Int.toNat (↑i : Int)) : Int)))), Value.int IntKind.i64 (Ty.se (cutT t (tyAt (List.map tyv ts) (↑(Int.toNat (↑i : Int)) : Int)))), Value.int IntKind.i64 (Ty.ca (cutT t (tyAt (List.map tyv ts) (↑(Int.toNat (↑i : Int)) : Int)))), Value.int IntKind.i64 (Ty.be (cutT t (tyAt (List.map tyv ts) (↑(Int.toNat (↑i : Int)) : Int)))), Value.int IntKind.i64 (Ty.le (cutT t (tyAt (List.map tyv ts) (↑(Int.toNat (↑i : Int)) : Int)))), Value.int IntKind.i64 (Ty.ba (cutT t (tyAt (List.map tyv ts) (↑(Int.toNat (↑i : Int)) : Int)))), Value.int IntKind.i64 (Ty.en (cutT t (tyAt (List.map tyv ts) (↑(Int.toNat (↑i : Int)) : Int)))), Value.int IntKind.i64 (Ty.oc (cutT t (tyAt (List.map tyv ts) (↑(Int.toNat (↑i : Int)) : Int)))), Value.int IntKind.i64 (Ty.su (cutT t (tyAt (List.map tyv ts) (↑(Int.toNat (↑i : Int)) : Int)))), Value.int IntKind.i64 (Ty.sb (cutT t (tyAt (List.map tyv ts) (↑(Int.toNat (↑i : Int)) : Int)))), Value.int IntKind.i64 (Ty.fa (cutT t (tyAt (List.map tyv ts) (↑(Int.toNat (↑i : Int)) : Int))))])) ∧ again (T.node (T.node (T.node (T.node T.leaf (Option.some (Value.pointer (Option.some (Go.Addr.mk 2 0 Option.none)))) T.leaf) Option.none T.leaf) (Option.some (Value.int IntKind.i64 t)) (T.node T.leaf Option.none (T.node T.leaf Option.none (T.node T.leaf (Option.some (Value.int IntKind.i64 (↑(List.length (List.map tyv ts)) : Int))) T.leaf)))) Option.none (T.node (T.node T.leaf (Option.some (Value.pointer (Option.some (Go.Addr.mk 1 0 Option.none)))) (T.node T.leaf Option.none (T.node T.leaf (Option.some (Value.func (Go.Fn.yield 16) (Array.mk (List.map tyv ts)) (Array.mk []))) T.leaf))) (Option.some (Value.pointer (Option.some (Go.Addr.mk 0 0 Option.none)))) (T.node T.leaf Option.none (T.node T.leaf Option.none (T.node T.leaf (Option.some (Value.int IntKind.i64 (IntKind.wrap IntKind.i64 ((↑i : Int) + 1)))) T.leaf))))) (AH.mk (T.node (T.node (T.node T.leaf (Option.some (AObj.cells [Value.int IntKind.i64 (Ty.g (cutT t (tyAt (List.map tyv ts) (↑(Int.toNat (↑i : Int)) : Int)))), Value.int IntKind.i64 (Ty.u (cutT t (tyAt (List.map tyv ts) (↑(Int.toNat (↑i : Int)) : Int)))), Value.int IntKind.i64 (Ty.a (cutT t (tyAt (List.map tyv ts) (↑(Int.toNat (↑i : Int)) : Int)))), Value.int IntKind.i64 (Ty.y (cutT t (tyAt (List.map tyv ts) (↑(Int.toNat (↑i : Int)) : Int)))), Value.string (Ty.nm (cutT t (tyAt (List.map tyv ts) (↑(Int.toNat (↑i : Int)) : Int)))), Value.int IntKind.i64 (Ty.sn (cutT t (tyAt (List.map tyv ts) (↑(Int.toNat (↑i : Int)) : Int)))), Value.int IntKind.i64 (Ty.se (cutT t (tyAt (List.map tyv ts) (↑(Int.toNat (↑i : Int)) : Int)))), Value.int IntKind.i64 (Ty.ca (cutT t (tyAt (List.map tyv ts) (↑(Int.toNat (↑i : Int)) : Int)))), Value.int IntKind.i64 (Ty.be (cutT t (tyAt (List.map tyv ts) (↑(Int.toNat (↑i : Int)) : Int)))), Value.int IntKind.i64 (Ty.le (cutT t (tyAt (List.map tyv ts) (↑(Int.toNat (↑i : Int)) : Int)))), Value.int IntKind.i64 (Ty.ba (cutT t (tyAt (List.map tyv ts) (↑(Int.toNat (↑i : Int)) : Int)))), Value.int IntKind.i64 (Ty.en (cutT t (tyAt (List.map tyv ts) (↑(Int.toNat (↑i : Int)) : Int)))), Value.int IntKind.i64 (Ty.oc (cutT t (tyAt (List.map tyv ts) (↑(Int.toNat (↑i : Int)) : Int)))), Value.int IntKind.i64 (Ty.su (cutT t (tyAt (List.map tyv ts) (↑(Int.toNat (↑i : Int)) : Int)))), Value.int IntKind.i64 (Ty.sb (cutT t (tyAt (List.map tyv ts) (↑(Int.toNat (↑i : Int)) : Int)))), Value.int IntKind.i64 (Ty.fa (cutT t (tyAt (List.map tyv ts) (↑(Int.toNat (↑i : Int)) : Int))))] 59)) T.leaf) (Option.some (AObj.cells [Value.int IntKind.i64 0, Value.slice Option.none 0 0, Value.slice Option.none 0 0] 25)) T.leaf) (Option.some (AObj.cells [Value.int IntKind.i64 u, Value.func (Go.Fn.yield 16) (Array.mk (List.map tyv ts)) (Array.mk []), Value.func (Go.Fn.yield 7) (Array.mk (List.map viv vs)) (Array.mk [])] 25)) (T.node T.leaf (Option.some (AObj.cells [Value.int IntKind.i64 m, Value.slice (Option.some (Go.Addr.mk 3 0 Option.none)) 1 18446744073709551616, Value.slice Option.none 0 0] 25)) T.leaf)) 4)) (HF (Value.func (Go.Fn.yield 16) (Array.mk (List.map tyv ts)) (Array.mk [])) ∧ HF (Value.func (Go.Fn.yield 16) (Array.mk (List.map tyv ts)) (Array.mk [])) ∧ HF (Value.func (Go.Fn.yield 7) (Array.mk (List.map viv vs)) (Array.mk [])) ∧ again (T.node (T.node (T.node (T.node T.leaf (Option.some (Value.pointer (Option.some (Go.Addr.mk 2 0 Option.none)))) T.leaf) Option.none T.leaf) (Option.some (Value.int IntKind.i64 t)) (T.node T.leaf Option.none (T.node T.leaf Option.none (T.node T.leaf (Option.some (Value.int IntKind.i64 (↑(List.length (List.map tyv ts)) : Int))) T.leaf)))) Option.none (T.node (T.node T.leaf (Option.some (Value.pointer (Option.some (Go.Addr.mk 1 0 Option.none)))) (T.node T.leaf Option.none (T.node T.leaf (Option.some (Value.func (Go.Fn.yield 16) (Array.mk (List.map tyv ts)) (Array.mk []))) T.leaf))) (Option.some (Value.pointer (Option.some (Go.Addr.mk 0 0 Option.none)))) (T.node T.leaf Option.none (T.node T.leaf Option.none (T.node T.leaf (Option.some (Value.int IntKind.i64 (IntKind.wrap IntKind.i64 ((↑i : Int) + 1)))) T.leaf))))) (AH.mk (T.node (T.node T.leaf (Option.some (AObj.cells [Value.int IntKind.i64 0, Value.slice Option.none 0 0, Value.slice Option.none 0 0] 25)) T.leaf) (Option.some (AObj.cells [Value.int IntKind.i64 u, Value.func (Go.Fn.yield 16) (Array.mk (List.map tyv ts)) (Array.mk []), Value.func (Go.Fn.yield 7) (Array.mk (List.map viv vs)) (Array.mk [])] 25)) (T.node T.leaf (Option.some (AObj.cells [Value.int IntKind.i64 m, Value.slice Option.none 0 0, Value.slice Option.none 0 0] 25)) T.leaf)) 3))) (HF (Value.func (Go.Fn.yield 7) (Array.mk (List.map viv vs)) (Array.mk [])) ∧ LAt (XW ts vs) 1 (Go.Func.ntmps Go.Proofs.Tryz.f7) (bodyOf Go.Proofs.Tryz.f7) [1, 1, 1, 1, 1, 0, 1, 0] (finK (SX.E (XW ts vs)) (Array.toList (Go.Func.results Go.Proofs.Tryz.f7)) K) (T.node (T.node (T.node (T.node T.leaf (Option.some (Value.pointer (Option.some (Go.Addr.mk 1 0 Option.none)))) T.leaf) Option.none T.leaf) (Option.some (Value.int IntKind.i64 t)) (T.node (T.node (T.node T.leaf Option.none (T.node T.leaf (Option.some (Value.int IntKind.i64 (↑(List.length (List.map viv vs)) : Int))) T.leaf)) Option.none T.leaf) Option.none T.leaf)) Option.none (T.node (T.node (T.node (T.node T.leaf Option.none (T.node T.leaf (Option.some (Value.func (Go.Fn.yield 7) (Array.mk (List.map viv vs)) (Array.mk []))) T.leaf)) Option.none T.leaf) (Option.some (Value.pointer (Option.some (Go.Addr.mk 0 0 Option.none)))) T.leaf) Option.none (T.node (T.node (T.node T.leaf Option.none (T.node T.leaf (Option.some (Value.int IntKind.i64 0)) T.leaf)) Option.none T.leaf) Option.none T.leaf))) (AH.mk (T.node (T.node T.leaf (Option.some (AObj.cells [Value.int IntKind.i64 m, Value.slice Option.none 0 0, Value.slice Option.none 0 0] 25)) T.leaf) (Option.some (AObj.cells [Value.int IntKind.i64 0, Value.slice Option.none 0 0, Value.slice Option.none 0 0] 25)) T.leaf) 2))) := by kernel_rfl
theorem jCWb_nf (K : KV) (again : KF) (u : Int) (m : Int) (t : Int) (ts : List Ty) (vs : List Vi) (i : Nat) (c : List Go.Value) (n : Nat) : jCWb K again u m t ts vs i c n = (Sp (decide ((↑i : Int) < (↑(List.length (List.map tyv ts)) : Int))) ((0 ≤ (↑i : Int) ∧ (↑i : Int) < (↑(List.length (List.map tyv ts)) : Int)) ∧ nth (List.map tyv ts) (Int.toNat (↑(Int.toNat (↑i : Int)) : Int)) = Option.some (Value.agg (Array.mk [Value.int IntKind.i64 (Ty.g (tyAt (List.map tyv ts) (↑(Int.toNat (↑i : Int)) : Int))), Value.int IntKind.i64 (Ty.u (tyAt (List.map tyv ts) (↑(Int.toNat (↑i : Int)) : Int))), Value.int IntKind.i64 (Ty.a (tyAt (List.map tyv ts) (↑(Int.toNat (↑i : Int)) : Int))), Value.int IntKind.i64 (Ty.y (tyAt (List.map tyv ts) (↑(Int.toNat (↑i : Int)) : Int))), Value.string (Ty.nm (tyAt (List.map tyv ts) (↑(Int.toNat (↑i : Int)) : Int))), Value.int IntKind.i64 (Ty.sn (tyAt (List.map tyv ts) (↑(Int.toNat (↑i : Int)) : Int))), Value.int IntKind.i64 (Ty.se (tyAt (List.map tyv ts) (↑(Int.toNat (↑i : Int)) : Int))), Value.int IntKind.i64 (Ty.ca (tyAt (List.map tyv ts) (↑(Int.toNat (↑i : Int)) : Int))), Value.int IntKind.i64 (Ty.be (tyAt (List.map tyv ts) (↑(Int.toNat (↑i : Int)) : Int))), Value.int IntKind.i64 (Ty.le (tyAt (List.map tyv ts) (↑(Int.toNat (↑i : Int)) : Int))), Value.int IntKind.i64 (Ty.ba (tyAt (List.map tyv ts) (↑(Int.toNat (↑i : Int)) : Int))), Value.int IntKind.i64 (Ty.en (tyAt (List.map tyv ts) (↑(Int.toNat (↑i : Int)) : Int))), Value.int IntKind.i64 (Ty.oc (tyAt (List.map tyv ts) (↑(Int.toNat (↑i : Int)) : Int))), Value.int IntKind.i64 (Ty.su (tyAt (List.map tyv ts) (↑(Int.toNat (↑i : Int)) : Int))), Value.int IntKind.i64 (Ty.sb (tyAt (List.map tyv ts) (↑(Int.toNat (↑i : Int)) : Int))), Value.int IntKind.i64 (Ty.fa (tyAt (List.map tyv ts) (↑(Int.toNat (↑i : Int)) : Int)))])) ∧ Sp (decide (Ty.se (tyAt (List.map tyv ts) (↑(Int.toNat (↑i : Int)) : Int)) ≤ t)) (Value.slice (Option.some (Go.Addr.mk 3 0 Option.none)) n 18446744073709551616 = Value.slice (Option.some (Go.Addr.mk 3 0 Option.none)) n 18446744073709551616 ∧ (n + 1 ≤ 70368744177664 ∧ (n + 1) * 136 ≤ 140737488355328 ∧ n * 16 ≤ List.length c) ∧ HF (Value.func (Go.Fn.yield 16) (Array.mk (List.map tyv ts)) (Array.mk [])) ∧ HF (Value.func (Go.Fn.yield 16) (Array.mk (List.map tyv ts)) (Array.mk [])) ∧ HF (Value.func (Go.Fn.yield 7) (Array.mk (List.map viv vs)) (Array.mk [])) ∧ HF (Value.agg (Array.mk (List.take (n * 16) c ++ [Value.int IntKind.i64 (Ty.g (cutT t (tyAt (List.map tyv ts) (↑(Int.toNat (↑i : Int)) : Int)))), Value.int IntKind.i64 (Ty.u (cutT t (tyAt (List.map tyv ts) (↑(Int.toNat (↑i : Int)) : Int)))), Value.int IntKind.i64 (Ty.a (cutT t (tyAt (List.map tyv ts) (↑(Int.toNat (↑i : Int)) : Int)))), Value.int IntKind.i64 (Ty.y (cutT t (tyAt (List.map tyv ts) (↑(Int.toNat (↑i : Int)) : Int)))), Value.string (Ty.nm (cutT t (tyAt (List.map tyv ts) (↑(Int.toNat (↑i : Int)) : Int)))), Value.int IntKind.i64 (Ty.sn (cutT t (tyAt (List.map tyv ts) (↑(Int.toNat (↑i : Int)) : Int)))), Value.int IntKind.i64 (Ty.se (cutT t (tyAt (List.map tyv ts) (↑(Int.toNat (↑i : Int)) : Int)))), Value.int IntKind.i64 (Ty.ca (cutT t (tyAt (List.map tyv ts) (↑(Int.toNat (↑i : Int)) : Int)))), Value.int IntKind.i64 (Ty.be (cutT t (tyAt (List.map tyv ts) (↑(Int.toNat (↑i : Int)) : Int)))), Value.int IntKind.i64 (Ty.le (cutT t (tyAt (List.map tyv ts) (↑(Int.toNat (↑i : Int)) : Int)))), Value.int IntKind.i64 (Ty.ba (cutT t (tyAt (List.map tyv ts) (↑(Int.toNat (↑i : Int)) : Int)))), Value.int IntKind.i64 (Ty.en (cutT t (tyAt (List.map tyv ts) (↑(Int.toNat (↑i : Int)) : Int)))), Value.int IntKind.i64 (Ty.oc (cutT t (tyAt (List.map tyv ts) (↑(Int.toNat (↑i : Int)) : Int)))), Value.int IntKind.i64 (Ty.su (cutT t (tyAt (List.map tyv ts) (↑(Int.toNat (↑i : Int)) : Int)))), Value.int IntKind.i64 (Ty.sb (cutT t (tyAt (List.map tyv ts) (↑(Int.toNat (↑i : Int)) : Int)))), Value.int IntKind.i64 (Ty.fa (cutT t (tyAt (List.map tyv ts) (↑(Int.toNat (↑i : Int)) : Int))))]))) ∧ again (T.node (T.node (T.node (T.node T.leaf (Option.some (Value.pointer (Option.some (Go.Addr.mk 2 0 Option.none)))) T.leaf) Option.none T.leaf) (Option.some (Value.int IntKind.i64 t)) (T.node T.leaf Option.none (T.node T.leaf Option.none (T.node T.leaf (Option.some (Value.int IntKind.i64 (↑(List.length (List.map tyv ts)) : Int))) T.leaf)))) Option.none (T.node (T.node T.leaf (Option.some (Value.pointer (Option.some (Go.Addr.mk 1 0 Option.none)))) (T.node T.leaf Option.none (T.node T.leaf (Option.some (Value.func (Go.Fn.yield 16) (Array.mk (List.map tyv ts)) (Array.mk []))) T.leaf))) (Option.some (Value.pointer (Option.some (Go.Addr.mk 0 0 Option.none)))) (T.node T.leaf Option.none (T.node T.leaf Option.none (T.node T.leaf (Option.some (Value.int IntKind.i64 (IntKind.wrap IntKind.i64 ((↑i : Int) + 1)))) T.leaf))))) (AH.mk (T.node (T.node (T.node T.leaf (Option.some (AObj.cells (List.take (n * 16) c ++ [Value.int IntKind.i64 (Ty.g (cutT t (tyAt (List.map tyv ts) (↑(Int.toNat (↑i : Int)) : Int)))), Value.int IntKind.i64 (Ty.u (cutT t (tyAt (List.map tyv ts) (↑(Int.toNat (↑i : Int)) : Int)))), Value.int IntKind.i64 (Ty.a (cutT t (tyAt (List.map tyv ts) (↑(Int.toNat (↑i : Int)) : Int)))), Value.int IntKind.i64 (Ty.y (cutT t (tyAt (List.map tyv ts) (↑(Int.toNat (↑i : Int)) : Int)))), Value.string (Ty.nm (cutT t (tyAt (List.map tyv ts) (↑(Int.toNat (↑i : Int)) : Int)))), Value.int IntKind.i64 (Ty.sn (cutT t (tyAt (List.map tyv ts) (↑(Int.toNat (↑i : Int)) : Int)))), Value.int IntKind.i64 (Ty.se (cutT t (tyAt (List.map tyv ts) (↑(Int.toNat (↑i : Int)) : Int)))), Value.int IntKind.i64 (Ty.ca (cutT t (tyAt (List.map tyv ts) (↑(Int.toNat (↑i : Int)) : Int)))), Value.int IntKind.i64 (Ty.be (cutT t (tyAt (List.map tyv ts) (↑(Int.toNat (↑i : Int)) : Int)))), Value.int IntKind.i64 (Ty.le (cutT t (tyAt (List.map tyv ts) (↑(Int.toNat (↑i : Int)) : Int)))), Value.int IntKind.i64 (Ty.ba (cutT t (tyAt (List.map tyv ts) (↑(Int.toNat (↑i : Int)) : Int)))), Value.int IntKind.i64 (Ty.en (cutT t (tyAt (List.map tyv ts) (↑(Int.toNat (↑i : Int)) : Int)))), Value.int IntKind.i64 (Ty.oc (cutT t (tyAt (List.map tyv ts) (↑(Int.toNat (↑i : Int)) : Int)))), Value.int IntKind.i64 (Ty.su (cutT t (tyAt (List.map tyv ts) (↑(Int.toNat (↑i : Int)) : Int)))), Value.int IntKind.i64 (Ty.sb (cutT t (tyAt (List.map tyv ts) (↑(Int.toNat (↑i : Int)) : Int)))), Value.int IntKind.i64 (Ty.fa (cutT t (tyAt (List.map tyv ts) (↑(Int.toNat (↑i : Int)) : Int))))]) 59)) T.leaf) (Option.some (AObj.cells [Value.int IntKind.i64 0, Value.slice Option.none 0 0, Value.slice Option.none 0 0] 25)) T.leaf) (Option.some (AObj.cells [Value.int IntKind.i64 u, Value.func (Go.Fn.yield 16) (Array.mk (List.map tyv ts)) (Array.mk []), Value.func (Go.Fn.yield 7) (Array.mk (List.map viv vs)) (Array.mk [])] 25)) (T.node T.leaf (Option.some (AObj.cells [Value.int IntKind.i64 m, Value.slice (Option.some (Go.Addr.mk 3 0 Option.none)) (n + 1) 18446744073709551616, Value.slice Option.none 0 0] 25)) T.leaf)) 4)) (HF (Value.func (Go.Fn.yield 16) (Array.mk (List.map tyv ts)) (Array.mk [])) ∧ HF (Value.func (Go.Fn.yield 16) (Array.mk (List.map tyv ts)) (Array.mk [])) ∧ HF (Value.func (Go.Fn.yield 7) (Array.mk (List.map viv vs)) (Array.mk [])) ∧ HF (Value.agg (Array.mk c)) ∧ again (T.node (T.node (T.node (T.node T.leaf (Option.some (Value.pointer (Option.some (Go.Addr.mk 2 0 Option.none)))) T.leaf) Option.none T.leaf) (Option.some (Value.int IntKind.i64 t)) (T.node T.leaf Option.none (T.node T.leaf Option.none (T.node T.leaf (Option.some (Value.int IntKind.i64 (↑(List.length (List.map tyv ts)) : Int))) T.leaf)))) Option.none (T.node (T.node T.leaf (Option.some (Value.pointer (Option.some (Go.Addr.mk 1 0 Option.none)))) (T.node T.leaf Option.none (T.node T.leaf (Option.some (Value.func (Go.Fn.yield 16) (Array.mk (List.map tyv ts)) (Array.mk []))) T.leaf))) (Option.some (Value.pointer (Option.some (Go.Addr.mk 0 0 Option.none)))) (T.node T.leaf Option.none (T.node T.leaf Option.none (T.node T.leaf (Option.some (Value.int IntKind.i64 (IntKind.wrap IntKind.i64 ((↑i : Int) + 1)))) T.leaf))))) (AH.mk (T.node (T.node (T.node T.leaf (Option.some (AObj.cells c 59)) T.leaf) (Option.some (AObj.cells [Value.int IntKind.i64 0, Value.slice Option.none 0 0, Value.slice Option.none 0 0] 25)) T.leaf) (Option.some (AObj.cells [Value.int IntKind.i64 u, Value.func (Go.Fn.yield 16) (Array.mk (List.map tyv ts)) (Array.mk []), Value.func (Go.Fn.yield 7) (Array.mk (List.map viv vs)) (Array.mk [])] 25)) (T.node T.leaf (Option.some (AObj.cells [Value.int IntKind.i64 m, Value.slice (Option.some (Go.Addr.mk 3 0 Option.none)) n 18446744073709551616, Value.slice Option.none 0 0] 25)) T.leaf)) 4))) (HF (Value.func (Go.Fn.yield 7) (Array.mk (List.map viv vs)) (Array.mk [])) ∧ HF (Value.agg (Array.mk c)) ∧ LAt (XW ts vs) 1 (Go.Func.ntmps Go.Proofs.Tryz.f7) (bodyOf Go.Proofs.Tryz.f7) [1, 1, 1, 1, 1, 0, 1, 0] (finK (SX.E (XW ts vs)) (Array.toList (Go.Func.results Go.Proofs.Tryz.f7)) K) (T.node (T.node (T.node (T.node T.leaf (Option.some (Value.pointer (Option.some (Go.Addr.mk 1 0 Option.none)))) T.leaf) Option.none T.leaf) (Option.some (Value.int IntKind.i64 t)) (T.node (T.node (T.node T.leaf Option.none (T.node T.leaf (Option.some (Value.int IntKind.i64 (↑(List.length (List.map viv vs)) : Int))) T.leaf)) Option.none T.leaf) Option.none T.leaf)) Option.none (T.node (T.node (T.node (T.node T.leaf Option.none (T.node T.leaf (Option.some (Value.func (Go.Fn.yield 7) (Array.mk (List.map viv vs)) (Array.mk []))) T.leaf)) Option.none T.leaf) (Option.some (Value.pointer (Option.some (Go.Addr.mk 0 0 Option.none)))) T.leaf) Option.none (T.node (T.node (T.node T.leaf Option.none (T.node T.leaf (Option.some (Value.int IntKind.i64 0)) T.leaf)) Option.none T.leaf) Option.none T.leaf))) (AH.mk (T.node (T.node T.leaf (Option.some (AObj.cells [Value.int IntKind.i64 m, Value.slice (Option.some (Go.Addr.mk 2 0 Option.none)) n 18446744073709551616, Value.slice Option.none 0 0] 25)) T.leaf) (Option.some (AObj.cells [Value.int IntKind.i64 0, Value.slice Option.none 0 0, Value.slice Option.none 0 0] 25)) (T.node T.leaf (Option.some (AObj.cells c 59)) T.leaf)) 3))) := by kernel_rfl
/-! ### The loop over the visits -/
def frC2 (t : Int) (vs : List Value) (i : Nat) : T Value := (.node (.node (.node (.node .leaf (some (.pointer (some ⟨1, 0, none⟩))) .leaf) none .leaf) (some (.int .i64 t)) (.node (.node (.node .leaf none (.node .leaf (some (.int .i64 vs.length)) .leaf)) none .leaf) none .leaf)) none (.node (.node (.node (.node .leaf none (.node .leaf (some (dat 7 vs)) .leaf)) none .leaf) (some (.pointer (some ⟨0, 0, none⟩))) .leaf) none (.node (.node (.node .leaf none (.node .leaf (some (.int .i64 i)) .leaf)) none .leaf) none .leaf)))
def hNN (m : Int) : AH := ⟨(.node (.node .leaf (some (.cells [.int .i64 m, .slice none 0 0, .slice none 0 0] 25)) .leaf) (some (.cells zL 25)) .leaf), 2⟩
def hBN (m : Int) (c : List Value) (n : Nat) : AH := ⟨(.node (.node .leaf (some (.cells [.int .i64 m, .slice (some ⟨2, 0, none⟩) n unk, .slice none 0 0] 25)) .leaf) (some (.cells zL 25)) (.node .leaf (some (.cells c 59)) .leaf)), 3⟩
def hNB (m : Int) (d : List Value) (k : Nat) : AH := ⟨(.node (.node .leaf (some (.cells [.int .i64 m, .slice none 0 0, .slice (some ⟨2, 0, none⟩) k unk] 25)) .leaf) (some (.cells zL 25)) (.node .leaf (some (.cells d 62)) .leaf)), 3⟩
def hBB (m : Int) (c : List Value) (n : Nat) (d : List Value) (k : Nat) : AH := ⟨(.node (.node (.node .leaf (some (.cells d 62)) .leaf) (some (.cells [.int .i64 m, .slice (some ⟨2, 0, none⟩) n unk, .slice (some ⟨3, 0, none⟩) k unk] 25)) .leaf) (some (.cells zL 25)) (.node .leaf (some (.cells c 59)) .leaf)), 4⟩
def jCNN (K : KV) (again : KF) (m t : Int) (ts : List Ty) (vs : List Vi) (i : Nat) : Prop := sxStepA (XW ts vs) 1 Proofs.Tryz.f7 [1, 1, 1, 1, 1, 0, 1, 0] K [59, 62] [1, 4, 7, 48, 49, 50] again (frC2 t (vs.map viv) i) (hNN m)
def jCBN (K : KV) (again : KF) (m t : Int) (ts : List Ty) (vs : List Vi) (i : Nat) (c : List Value) (n : Nat) : Prop := sxStepA (XW ts vs) 1 Proofs.Tryz.f7 [1, 1, 1, 1, 1, 0, 1, 0] K [59, 62] [1, 4, 7, 48, 49, 50] again (frC2 t (vs.map viv) i) (hBN m c n)
def jCNB (K : KV) (again : KF) (m t : Int) (ts : List Ty) (vs : List Vi) (i : Nat) (d : List Value) (k : Nat) : Prop := sxStepA (XW ts vs) 1 Proofs.Tryz.f7 [1, 1, 1, 1, 1, 0, 1, 0] K [59, 62] [1, 4, 7, 48, 49, 50] again (frC2 t (vs.map viv) i) (hNB m d k)
def jCBB (K : KV) (again : KF) (m t : Int) (ts : List Ty) (vs : List Vi) (i : Nat) (c : List Value) (n : Nat) (d : List Value) (k : Nat) : Prop := sxStepA (XW ts vs) 1 Proofs.Tryz.f7 [1, 1, 1, 1, 1, 0, 1, 0] K [59, 62] [1, 4, 7, 48, 49, 50] again (frC2 t (vs.map viv) i) (hBB m c n d k)
end
end Go.T9
set_option maxRecDepth 1000000
set_option linter.unusedVariables false
set_option linter.unusedSimpArgs false
set_option maxHeartbeats 4000000
namespace Go.T9
open Go Go.AM
noncomputable section
theorem jCNN_nf (K : KV) (again : KF) (m : Int) (t : Int) (ts : List Ty) (vs : List Vi) (i : Nat) : jCNN K again m t ts vs i = (Sp (decide ((↑i : Int) < (↑(List.length (List.map viv vs)) : Int))) ((0 ≤ (↑i : Int) ∧ (↑i : Int) < (↑(List.length (List.map viv vs)) : Int)) ∧ nth (List.map viv vs) (Int.toNat (↑(Int.toNat (↑i : Int)) : Int)) = Option.some (Value.agg (Array.mk [Value.int IntKind.i64 (Vi.g (viAt (List.map viv vs) (↑(Int.toNat (↑i : Int)) : Int))), Value.int IntKind.i64 (Vi.u (viAt (List.map viv vs) (↑(Int.toNat (↑i : Int)) : Int))), Value.int IntKind.i64 (Vi.fr (viAt (List.map viv vs) (↑(Int.toNat (↑i : Int)) : Int))), Value.int IntKind.i64 (Vi.to (viAt (List.map viv vs) (↑(Int.toNat (↑i : Int)) : Int))), Value.int IntKind.i64 (Vi.en (viAt (List.map viv vs) (↑(Int.toNat (↑i : Int)) : Int))), Value.int IntKind.i64 (Vi.er (viAt (List.map viv vs) (↑(Int.toNat (↑i : Int)) : Int))), Value.string (Vi.tx (viAt (List.map viv vs) (↑(Int.toNat (↑i : Int)) : Int)))])) ∧ Sp (decide (t < Vi.fr (viAt (List.map viv vs) (↑(Int.toNat (↑i : Int)) : Int)))) (HF (Value.func (Go.Fn.yield 7) (Array.mk (List.map viv vs)) (Array.mk [])) ∧ again (T.node (T.node (T.node (T.node T.leaf (Option.some (Value.pointer (Option.some (Go.Addr.mk 1 0 Option.none)))) T.leaf) Option.none T.leaf) (Option.some (Value.int IntKind.i64 t)) (T.node (T.node (T.node T.leaf Option.none (T.node T.leaf (Option.some (Value.int IntKind.i64 (↑(List.length (List.map viv vs)) : Int))) T.leaf)) Option.none T.leaf) Option.none T.leaf)) Option.none (T.node (T.node (T.node (T.node T.leaf Option.none (T.node T.leaf (Option.some (Value.func (Go.Fn.yield 7) (Array.mk (List.map viv vs)) (Array.mk []))) T.leaf)) Option.none T.leaf) (Option.some (Value.pointer (Option.some (Go.Addr.mk 0 0 Option.none)))) T.leaf) Option.none (T.node (T.node (T.node T.leaf Option.none (T.node T.leaf (Option.some (Value.int IntKind.i64 (IntKind.wrap IntKind.i64 ((↑i : Int) + 1)))) T.leaf)) Option.none T.leaf) Option.none T.leaf))) (AH.mk (T.node (T.node T.leaf (Option.some (AObj.cells [Value.int IntKind.i64 m, Value.slice Option.none 0 0, Value.slice Option.none 0 0] 25)) T.leaf) (Option.some (AObj.cells [Value.int IntKind.i64 0, Value.slice Option.none 0 0, Value.slice Option.none 0 0] 25)) T.leaf) 2)) (Sp (decide (t < Vi.to (viAt (List.map viv vs) (↑(Int.toNat (↑i : Int)) : Int)))) (HF (Value.func (Go.Fn.yield 7) (Array.mk (List.map viv vs)) (Array.mk [])) ∧ HF (Value.agg (Array.mk [Value.int IntKind.i64 (Vi.g (viAt (List.map viv vs) (↑(Int.toNat (↑i : Int)) : Int))), Value.int IntKind.i64 (Vi.u (viAt (List.map viv vs) (↑(Int.toNat (↑i : Int)) : Int))), Value.int IntKind.i64 (Vi.fr (viAt (List.map viv vs) (↑(Int.toNat (↑i : Int)) : Int))), Value.int IntKind.i64 (-1), Value.int IntKind.i64 4, Value.int IntKind.i64 0, Value.string (ByteArray.mk (Array.mk []))])) ∧ again (T.node (T.node (T.node (T.node T.leaf (Option.some (Value.pointer (Option.some (Go.Addr.mk 1 0 Option.none)))) T.leaf) Option.none T.leaf) (Option.some (Value.int IntKind.i64 t)) (T.node (T.node (T.node T.leaf Option.none (T.node T.leaf (Option.some (Value.int IntKind.i64 (↑(List.length (List.map viv vs)) : Int))) T.leaf)) Option.none T.leaf) Option.none T.leaf)) Option.none (T.node (T.node (T.node (T.node T.leaf Option.none (T.node T.leaf (Option.some (Value.func (Go.Fn.yield 7) (Array.mk (List.map viv vs)) (Array.mk []))) T.leaf)) Option.none T.leaf) (Option.some (Value.pointer (Option.some (Go.Addr.mk 0 0 Option.none)))) T.leaf) Option.none (T.node (T.node (T.node T.leaf Option.none (T.node T.leaf (Option.some (Value.int IntKind.i64 (IntKind.wrap IntKind.i64 ((↑i : Int) + 1)))) T.leaf)) Option.none T.leaf) Option.none T.leaf))) (AH.mk (T.node (T.node T.leaf (Option.some (AObj.cells [Value.int IntKind.i64 m, Value.slice Option.none 0 0, Value.slice (Option.some (Go.Addr.mk 2 0 Option.none)) 1 18446744073709551616] 25)) T.leaf) (Option.some (AObj.cells [Value.int IntKind.i64 0, Value.slice Option.none 0 0, Value.slice Option.none 0 0] 25)) (T.node T.leaf (Option.some (AObj.cells [Value.int IntKind.i64 (Vi.g (viAt (List.map viv vs) (↑(Int.toNat (↑i : Int)) : Int))), Value.int IntKind.i64 (Vi.u (viAt (List.map viv vs) (↑(Int.toNat (↑i : Int)) : Int))), Value.int IntKind.i64 (Vi.fr (viAt (List.map viv vs) (↑(Int.toNat (↑i : Int)) : Int))), Value.int IntKind.i64 (-1), Value.int IntKind.i64 4, Value.int IntKind.i64 0, Value.string (ByteArray.mk (Array.mk []))] 62)) T.leaf)) 3)) (HF (Value.func (Go.Fn.yield 7) (Array.mk (List.map viv vs)) (Array.mk [])) ∧ HF (Value.agg (Array.mk [Value.int IntKind.i64 (Vi.g (viAt (List.map viv vs) (↑(Int.toNat (↑i : Int)) : Int))), Value.int IntKind.i64 (Vi.u (viAt (List.map viv vs) (↑(Int.toNat (↑i : Int)) : Int))), Value.int IntKind.i64 (Vi.fr (viAt (List.map viv vs) (↑(Int.toNat (↑i : Int)) : Int))), Value.int IntKind.i64 (Vi.to (viAt (List.map viv vs) (↑(Int.toNat (↑i : Int)) : Int))), Value.int IntKind.i64 (Vi.en (viAt (List.map viv vs) (↑(Int.toNat (↑i : Int)) : Int))), Value.int IntKind.i64 (Vi.er (viAt (List.map viv vs) (↑(Int.toNat (↑i : Int)) : Int))), Value.string (Vi.tx (viAt (List.map viv vs) (↑(Int.toNat (↑i : Int)) : Int)))])) ∧ again (T.node (T.node (T.node (T.node T.leaf (Option.some (Value.pointer (Option.some (Go.Addr.mk 1 0 Option.none)))) T.leaf) Option.none T.leaf) (Option.some (Value.int IntKind.i64 t)) (T.node (T.node (T.node T.leaf Option.none (T.node T.leaf (Option.some (Value.int IntKind.i64 (↑(List.length (List.map viv vs)) : Int))) T.leaf)) Option.none T.leaf) Option.none T.leaf)) Option.none (T.node (T.node (T.node (T.node T.leaf Option.none (T.node T.leaf (Option.some (Value.func (Go.Fn.yield 7) (Array.mk (List.map viv vs)) (Array.mk []))) T.leaf)) Option.none T.leaf) (Option.some (Value.pointer (Option.some (Go.Addr.mk 0 0 Option.none)))) T.leaf) Option.none (T.node (T.node (T.node T.leaf Option.none (T.node T.leaf (Option.some (Value.int IntKind.i64 (IntKind.wrap IntKind.i64 ((↑i : Int) + 1)))) T.leaf)) Option.none T.leaf) Option.none T.leaf))) (AH.mk (T.node (T.node T.leaf (Option.some (AObj.cells [Value.int IntKind.i64 m, Value.slice Option.none 0 0, Value.slice (Option.some (Go.Addr.mk 2 0 Option.none)) 1 18446744073709551616] 25)) T.leaf) (Option.some (AObj.cells [Value.int IntKind.i64 0, Value.slice Option.none 0 0, Value.slice Option.none 0 0] 25)) (T.node T.leaf (Option.some (AObj.cells [Value.int IntKind.i64 (Vi.g (viAt (List.map viv vs) (↑(Int.toNat (↑i : Int)) : Int))), Value.int IntKind.i64 (Vi.u (viAt (List.map viv vs) (↑(Int.toNat (↑i : Int)) : Int))), Value.int IntKind.i64 (Vi.fr (viAt (List.map viv vs) (↑(Int.toNat (↑i : Int)) : Int))), Value.int IntKind.i64 (Vi.to (viAt (List.map viv vs) (↑(Int.toNat (↑i : Int)) : Int))), Value.int IntKind.i64 (Vi.en (viAt (List.map viv vs) (↑(Int.toNat (↑i : Int)) : Int))), Value.int IntKind.i64 (Vi.er (viAt (List.map viv vs) (↑(Int.toNat (↑i : Int)) : Int))), Value.string (Vi.tx (viAt (List.map viv vs) (↑(Int.toNat (↑i : Int)) : Int)))] 62)) T.leaf)) 3)))) (K (Value.tuple (Array.mk [Value.agg (Array.mk [Value.int IntKind.i64 m, Value.slice Option.none 0 0, Value.slice Option.none 0 0]), Value.int IntKind.i64 0])) (AH.mk (T.node (T.node T.leaf (Option.some (AObj.cells [Value.int IntKind.i64 m, Value.slice Option.none 0 0, Value.slice Option.none 0 0] 25)) T.leaf) (Option.some (AObj.cells [Value.int IntKind.i64 m, Value.slice Option.none 0 0, Value.slice Option.none 0 0] 25)) T.leaf) 2))) := by kernel_rfl
theorem jCBN_nf (K : KV) (again : KF) (m : Int) (t : Int) (ts : List Ty) (vs : List Vi) (i : Nat) (c : List Go.Value) (n : Nat) : jCBN K again m t ts vs i c n = (Sp (decide ((↑i : Int) < (↑(List.length (List.map viv vs)) : Int))) ((0 ≤ (↑i : Int) ∧ (↑i : Int) < (↑(List.length (List.map viv vs)) : Int)) ∧ nth (List.map viv vs) (Int.toNat (↑(Int.toNat (↑i : Int)) : Int)) = Option.some (Value.agg (Array.mk [Value.int IntKind.i64 (Vi.g (viAt (List.map viv vs) (↑(Int.toNat (↑i : Int)) : Int))), Value.int IntKind.i64 (Vi.u (viAt (List.map viv vs) (↑(Int.toNat (↑i : Int)) : Int))), Value.int IntKind.i64 (Vi.fr (viAt (List.map viv vs) (↑(Int.toNat (↑i : Int)) : Int))), Value.int IntKind.i64 (Vi.to (viAt (List.map viv vs) (↑(Int.toNat (↑i : Int)) : Int))), Value.int IntKind.i64 (Vi.en (viAt (List.map viv vs) (↑(Int.toNat (↑i : Int)) : Int))), Value.int IntKind.i64 (Vi.er (viAt (List.map viv vs) (↑(Int.toNat (↑i : Int)) : Int))), Value.string (Vi.tx (viAt (List.map viv vs) (↑(Int.toNat (↑i : Int)) : Int)))])) ∧ Sp (decide (t < Vi.fr (viAt (List.map viv vs) (↑(Int.toNat (↑i : Int)) : Int)))) (HF (Value.func (Go.Fn.yield 7) (Array.mk (List.map viv vs)) (Array.mk [])) ∧ HF (Value.agg (Array.mk c)) ∧ again (T.node (T.node (T.node (T.node T.leaf (Option.some (Value.pointer (Option.some (Go.Addr.mk 1 0 Option.none)))) T.leaf) Option.none T.leaf) (Option.some (Value.int IntKind.i64 t)) (T.node (T.node (T.node T.leaf Option.none (T.node T.leaf (Option.some (Value.int IntKind.i64 (↑(List.length (List.map viv vs)) : Int))) T.leaf)) Option.none T.leaf) Option.none T.leaf)) Option.none (T.node (T.node (T.node (T.node T.leaf Option.none (T.node T.leaf (Option.some (Value.func (Go.Fn.yield 7) (Array.mk (List.map viv vs)) (Array.mk []))) T.leaf)) Option.none T.leaf) (Option.some (Value.pointer (Option.some (Go.Addr.mk 0 0 Option.none)))) T.leaf) Option.none (T.node (T.node (T.node T.leaf Option.none (T.node T.leaf (Option.some (Value.int IntKind.i64 (IntKind.wrap IntKind.i64 ((↑i : Int) + 1)))) T.leaf)) Option.none T.leaf) Option.none T.leaf))) (AH.mk (T.node (T.node T.leaf (Option.some (AObj.cells [Value.int IntKind.i64 m, Value.slice (Option.some (Go.Addr.mk 2 0 Option.none)) n 18446744073709551616, Value.slice Option.none 0 0] 25)) T.leaf) (Option.some (AObj.cells [Value.int IntKind.i64 0, Value.slice Option.none 0 0, Value.slice Option.none 0 0] 25)) (T.node T.leaf (Option.some (AObj.cells c 59)) T.leaf)) 3)) (Sp (decide (t < Vi.to (viAt (List.map viv vs) (↑(Int.toNat (↑i : Int)) : Int)))) (HF (Value.func (Go.Fn.yield 7) (Array.mk (List.map viv vs)) (Array.mk [])) ∧ HF (Value.agg (Array.mk c)) ∧ HF (Value.agg (Array.mk [Value.int IntKind.i64 (Vi.g (viAt (List.map viv vs) (↑(Int.toNat (↑i : Int)) : Int))), Value.int IntKind.i64 (Vi.u (viAt (List.map viv vs) (↑(Int.toNat (↑i : Int)) : Int))), Value.int IntKind.i64 (Vi.fr (viAt (List.map viv vs) (↑(Int.toNat (↑i : Int)) : Int))), Value.int IntKind.i64 (-1), Value.int IntKind.i64 4, Value.int IntKind.i64 0, Value.string (ByteArray.mk (Array.mk []))])) ∧ again (T.node (T.node (T.node (T.node T.leaf (Option.some (Value.pointer (Option.some (Go.Addr.mk 1 0 Option.none)))) T.leaf) Option.none T.leaf) (Option.some (Value.int IntKind.i64 t)) (T.node (T.node (T.node T.leaf Option.none (T.node T.leaf (Option.some (Value.int IntKind.i64 (↑(List.length (List.map viv vs)) : Int))) T.leaf)) Option.none T.leaf) Option.none T.leaf)) Option.none (T.node (T.node (T.node (T.node T.leaf Option.none (T.node T.leaf (Option.some (Value.func (Go.Fn.yield 7) (Array.mk (List.map viv vs)) (Array.mk []))) T.leaf)) Option.none T.leaf) (Option.some (Value.pointer (Option.some (Go.Addr.mk 0 0 Option.none)))) T.leaf) Option.none (T.node (T.node (T.node T.leaf Option.none (T.node T.leaf (Option.some (Value.int IntKind.i64 (IntKind.wrap IntKind.i64 ((↑i : Int) + 1)))) T.leaf)) Option.none T.leaf) Option.none T.leaf))) (AH.mk (T.node (T.node (T.node T.leaf (Option.some (AObj.cells [Value.int IntKind.i64 (Vi.g (viAt (List.map viv vs) (↑(Int.toNat (↑i : Int)) : Int))), Value.int IntKind.i64 (Vi.u (viAt (List.map viv vs) (↑(Int.toNat (↑i : Int)) : Int))), Value.int IntKind.i64 (Vi.fr (viAt (List.map viv vs) (↑(Int.toNat (↑i : Int)) : Int))), Value.int IntKind.i64 (-1), Value.int IntKind.i64 4, Value.int IntKind.i64 0, Value.string (ByteArray.mk (Array.mk []))] 62)) T.leaf) (Option.some (AObj.cells [Value.int IntKind.i64 m, Value.slice (Option.some (Go.Addr.mk 2 0 Option.none)) n 18446744073709551616, Value.slice (Option.some (Go.Addr.mk 3 0 Option.none)) 1 18446744073709551616] 25)) T.leaf) (Option.some (AObj.cells [Value.int IntKind.i64 0, Value.slice Option.none 0 0, Value.slice Option.none 0 0] 25)) (T.node T.leaf (Option.some (AObj.cells c 59)) T.leaf)) 4)) (HF (Value.func (Go.Fn.yield 7) (Array.mk (List.map viv vs)) (Array.mk [])) ∧ HF (Value.agg (Array.mk c)) ∧ HF (Value.agg (Array.mk [Value.int IntKind.i64 (Vi.g (viAt (List.map viv vs) (↑(Int.toNat (↑i : Int)) : Int))), Value.int IntKind.i64 (Vi.u (viAt (List.map viv vs) (↑(Int.toNat (↑i : Int)) : Int))), Value.int IntKind.i64 (Vi.fr (viAt (List.map viv vs) (↑(Int.toNat (↑i : Int)) : Int))), Value.int IntKind.i64 (Vi.to (viAt (List.map viv vs) (↑(Int.toNat (↑i : Int)) : Int))), Value.int IntKind.i64 (Vi.en (viAt (List.map viv vs) (↑(Int.toNat (↑i : Int)) : Int))), Value.int IntKind.i64 (Vi.er (viAt (List.map viv vs) (↑(Int.toNat (↑i : Int)) : Int))), Value.string (Vi.tx (viAt (List.map viv vs) (↑(Int.toNat (↑i : Int)) : Int)))])) ∧ again (T.node (T.node (T.node (T.node T.leaf (Option.some (Value.pointer (Option.some (Go.Addr.mk 1 0 Option.none)))) T.leaf) Option.none T.leaf) (Option.some (Value.int IntKind.i64 t)) (T.node (T.node (T.node T.leaf Option.none (T.node T.leaf (Option.some (Value.int IntKind.i64 (↑(List.length (List.map viv vs)) : Int))) T.leaf)) Option.none T.leaf) Option.none T.leaf)) Option.none (T.node (T.node (T.node (T.node T.leaf Option.none (T.node T.leaf (Option.some (Value.func (Go.Fn.yield 7) (Array.mk (List.map viv vs)) (Array.mk []))) T.leaf)) Option.none T.leaf) (Option.some (Value.pointer (Option.some (Go.Addr.mk 0 0 Option.none)))) T.leaf) Option.none (T.node (T.node (T.node T.leaf Option.none (T.node T.leaf (Option.some (Value.int IntKind.i64 (IntKind.wrap IntKind.i64 ((↑i : Int) + 1)))) T.leaf)) Option.none T.leaf) Option.none T.leaf))) (AH.mk (T.node (T.node (T.node T.leaf (Option.some (AObj.cells [Value.int IntKind.i64 (Vi.g (viAt (List.map viv vs) (↑(Int.toNat (↑i : Int)) : Int))), Value.int IntKind.i64 (Vi.u (viAt (List.map viv vs) (↑(Int.toNat (↑i : Int)) : Int))), Value.int IntKind.i64 (Vi.fr (viAt (List.map viv vs) (↑(Int.toNat (↑i : Int)) : Int))), Value.int IntKind.i64 (Vi.to (viAt (List.map viv vs) (↑(Int.toNat (↑i : Int)) : Int))), Value.int IntKind.i64 (Vi.en (viAt (List.map viv vs) (↑(Int.toNat (↑i : Int)) : Int))), Value.int IntKind.i64 (Vi.er (viAt (List.map viv vs) (↑(Int.toNat (↑i : Int)) : Int))), Value.string (Vi.tx (viAt (List.map viv vs) (↑(Int.toNat (↑i : Int)) : Int)))] 62)) T.leaf) (Option.some (AObj.cells [Value.int IntKind.i64 m, Value.slice (Option.some (Go.Addr.mk 2 0 Option.none)) n 18446744073709551616, Value.slice (Option.some (Go.Addr.mk 3 0 Option.none)) 1 18446744073709551616] 25)) T.leaf) (Option.some (AObj.cells [Value.int IntKind.i64 0, Value.slice Option.none 0 0, Value.slice Option.none 0 0] 25)) (T.node T.leaf (Option.some (AObj.cells c 59)) T.leaf)) 4)))) (K (Value.tuple (Array.mk [Value.agg (Array.mk [Value.int IntKind.i64 m, Value.slice (Option.some (Go.Addr.mk 2 0 Option.none)) n 18446744073709551616, Value.slice Option.none 0 0]), Value.int IntKind.i64 0])) (AH.mk (T.node (T.node T.leaf (Option.some (AObj.cells [Value.int IntKind.i64 m, Value.slice (Option.some (Go.Addr.mk 2 0 Option.none)) n 18446744073709551616, Value.slice Option.none 0 0] 25)) T.leaf) (Option.some (AObj.cells [Value.int IntKind.i64 m, Value.slice (Option.some (Go.Addr.mk 2 0 Option.none)) n 18446744073709551616, Value.slice Option.none 0 0] 25)) (T.node T.leaf (Option.some (AObj.cells c 59)) T.leaf)) 3))) := by kernel_rfl
theorem jCNB_nf (K : KV) (again : KF) (m : Int) (t : Int) (ts : List Ty) (vs : List Vi) (i : Nat) (d : List Go.Value) (k : Nat) : jCNB K again m t ts vs i d k = (Sp (decide ((↑i : Int) < (↑(List.length (List.map viv vs)) : Int))) ((0 ≤ (↑i : Int) ∧ (↑i : Int) < (↑(List.length (List.map viv vs)) : Int)) ∧ nth (List.map viv vs) (Int.toNat (↑(Int.toNat (↑i : Int)) : Int)) = Option.some (Value.agg (Array.mk [Value.int IntKind.i64 (Vi.g (viAt (List.map viv vs) (↑(Int.toNat (↑i : Int)) : Int))), Value.int IntKind.i64 (Vi.u (viAt (List.map viv vs) (↑(Int.toNat (↑i : Int)) : Int))), Value.int IntKind.i64 (Vi.fr (viAt (List.map viv vs) (↑(Int.toNat (↑i : Int)) : Int))), Value.int IntKind.i64 (Vi.to (viAt (List.map viv vs) (↑(Int.toNat (↑i : Int)) : Int))), Value.int IntKind.i64 (Vi.en (viAt (List.map viv vs) (↑(Int.toNat (↑i : Int)) : Int))), Value.int IntKind.i64 (Vi.er (viAt (List.map viv vs) (↑(Int.toNat (↑i : Int)) : Int))), Value.string (Vi.tx (viAt (List.map viv vs) (↑(Int.toNat (↑i : Int)) : Int)))])) ∧ Sp (decide (t < Vi.fr (viAt (List.map viv vs) (↑(Int.toNat (↑i : Int)) : Int)))) (HF (Value.func (Go.Fn.yield 7) (Array.mk (List.map viv vs)) (Array.mk [])) ∧ HF (Value.agg (Array.mk d)) ∧ again (T.node (T.node (T.node (T.node T.leaf (Option.some (Value.pointer (Option.some (Go.Addr.mk 1 0 Option.none)))) T.leaf) Option.none T.leaf) (Option.some (Value.int IntKind.i64 t)) (T.node (T.node (T.node T.leaf Option.none (T.node T.leaf (Option.some (Value.int IntKind.i64 (↑(List.length (List.map viv vs)) : Int))) T.leaf)) Option.none T.leaf) Option.none T.leaf)) Option.none (T.node (T.node (T.node (T.node T.leaf Option.none (T.node T.leaf (Option.some (Value.func (Go.Fn.yield 7) (Array.mk (List.map viv vs)) (Array.mk []))) T.leaf)) Option.none T.leaf) (Option.some (Value.pointer (Option.some (Go.Addr.mk 0 0 Option.none)))) T.leaf) Option.none (T.node (T.node (T.node T.leaf Option.none (T.node T.leaf (Option.some (Value.int IntKind.i64 (IntKind.wrap IntKind.i64 ((↑i : Int) + 1)))) T.leaf)) Option.none T.leaf) Option.none T.leaf))) (AH.mk (T.node (T.node T.leaf (Option.some (AObj.cells [Value.int IntKind.i64 m, Value.slice Option.none 0 0, Value.slice (Option.some (Go.Addr.mk 2 0 Option.none)) k 18446744073709551616] 25)) T.leaf) (Option.some (AObj.cells [Value.int IntKind.i64 0, Value.slice Option.none 0 0, Value.slice Option.none 0 0] 25)) (T.node T.leaf (Option.some (AObj.cells d 62)) T.leaf)) 3)) (Sp (decide (t < Vi.to (viAt (List.map viv vs) (↑(Int.toNat (↑i : Int)) : Int)))) ((k + 1 ≤ 70368744177664 ∧ (k + 1) * 64 ≤ 140737488355328 ∧ k * 7 ≤ List.length d) ∧ HF (Value.func (Go.Fn.yield 7) (Array.mk (List.map viv vs)) (Array.mk [])) ∧ HF (Value.agg (Array.mk (List.take (k * 7) d ++ [Value.int IntKind.i64 (Vi.g (viAt (List.map viv vs) (↑(Int.toNat (↑i : Int)) : Int))), Value.int IntKind.i64 (Vi.u (viAt (List.map viv vs) (↑(Int.toNat (↑i : Int)) : Int))), Value.int IntKind.i64 (Vi.fr (viAt (List.map viv vs) (↑(Int.toNat (↑i : Int)) : Int))), Value.int IntKind.i64 (-1), Value.int IntKind.i64 4, Value.int IntKind.i64 0, Value.string (ByteArray.mk (Array.mk []))]))) ∧ again (T.node (T.node (T.node (T.node T.leaf (Option.some (Value.pointer (Option.some (Go.Addr.mk 1 0 Option.none)))) T.leaf) Option.none T.leaf) (Option.some (Value.int IntKind.i64 t)) (T.node (T.node (T.node T.leaf Option.none (T.node T.leaf (Option.some (Value.int IntKind.i64 (↑(List.length (List.map viv vs)) : Int))) T.leaf)) Option.none T.leaf) Option.none T.leaf)) Option.none (T.node (T.node (T.node (T.node T.leaf Option.none (T.node T.leaf (Option.some (Value.func (Go.Fn.yield 7) (Array.mk (List.map viv vs)) (Array.mk []))) T.leaf)) Option.none T.leaf) (Option.some (Value.pointer (Option.some (Go.Addr.mk 0 0 Option.none)))) T.leaf) Option.none (T.node (T.node (T.node T.leaf Option.none (T.node T.leaf (Option.some (Value.int IntKind.i64 (IntKind.wrap IntKind.i64 ((↑i : Int) + 1)))) T.leaf)) Option.none T.leaf) Option.none T.leaf))) (AH.mk (T.node (T.node T.leaf (Option.some (AObj.cells [Value.int IntKind.i64 m, Value.slice Option.none 0 0, Value.slice (Option.some (Go.Addr.mk 2 0 Option.none)) (k + 1) 18446744073709551616] 25)) T.leaf) (Option.some (AObj.cells [Value.int IntKind.i64 0, Value.slice Option.none 0 0, Value.slice Option.none 0 0] 25)) (T.node T.leaf (Option.some (AObj.cells (List.take (k * 7) d ++ [Value.int IntKind.i64 (Vi.g (viAt (List.map viv vs) (↑(Int.toNat (↑i : Int)) : Int))), Value.int IntKind.i64 (Vi.u (viAt (List.map viv vs) (↑(Int.toNat (↑i : Int)) : Int))), Value.int IntKind.i64 (Vi.fr (viAt (List.map viv vs) (↑(Int.toNat (↑i : Int)) : Int))), Value.int IntKind.i64 (-1), Value.int IntKind.i64 4, Value.int IntKind.i64 0, Value.string (ByteArray.mk (Array.mk []))]) 62)) T.leaf)) 3)) ((k + 1 ≤ 70368744177664 ∧ (k + 1) * 64 ≤ 140737488355328 ∧ k * 7 ≤ List.length d) ∧ HF (Value.func (Go.Fn.yield 7) (Array.mk (List.map viv vs)) (Array.mk [])) ∧ HF (Value.agg (Array.mk (List.take (k * 7) d ++ [Value.int IntKind.i64 (Vi.g (viAt (List.map viv vs) (↑(Int.toNat (↑i : Int)) : Int))), Value.int IntKind.i64 (Vi.u (viAt (List.map viv vs) (↑(Int.toNat (↑i : Int)) : Int))), Value.int IntKind.i64 (Vi.fr (viAt (List.map viv vs) (↑(Int.toNat (↑i : Int)) : Int))), Value.int IntKind.i64 (Vi.to (viAt (List.map viv vs) (↑(Int.toNat (↑i : Int)) : Int))), Value.int IntKind.i64 (Vi.en (viAt (List.map viv vs) (↑(Int.toNat (↑i : Int)) : Int))), Value.int IntKind.i64 (Vi.er (viAt (List.map viv vs) (↑(Int.toNat (↑i : Int)) : Int))), Value.string (Vi.tx (viAt (List.map viv vs) (↑(Int.toNat (↑i : Int)) : Int)))]))) ∧ again (T.node (T.node (T.node (T.node T.leaf (Option.some (Value.pointer (Option.some (Go.Addr.mk 1 0 Option.none)))) T.leaf) Option.none T.leaf) (Option.some (Value.int IntKind.i64 t)) (T.node (T.node (T.node T.leaf Option.none (T.node T.leaf (Option.some (Value.int IntKind.i64 (↑(List.length (List.map viv vs)) : Int))) T.leaf)) Option.none T.leaf) Option.none T.leaf)) Option.none (T.node (T.node (T.node (T.node T.leaf Option.none (T.node T.leaf (Option.some (Value.func (Go.Fn.yield 7) (Array.mk (List.map viv vs)) (Array.mk []))) T.leaf)) Option.none T.leaf) (Option.some (Value.pointer (Option.some (Go.Addr.mk 0 0 Option.none)))) T.leaf) Option.none (T.node (T.node (T.node T.leaf Option.none (T.node T.leaf (Option.some (Value.int IntKind.i64 (IntKind.wrap IntKind.i64 ((↑i : Int) + 1)))) T.leaf)) Option.none T.leaf) Option.none T.leaf))) (AH.mk (T.node (T.node T.leaf (Option.some (AObj.cells [Value.int IntKind.i64 m, Value.slice Option.none 0 0, Value.slice (Option.some (Go.Addr.mk 2 0 Option.none)) (k + 1) 18446744073709551616] 25)) T.leaf) (Option.some (AObj.cells [Value.int IntKind.i64 0, Value.slice Option.none 0 0, Value.slice Option.none 0 0] 25)) (T.node T.leaf (Option.some (AObj.cells (List.take (k * 7) d ++ [Value.int IntKind.i64 (Vi.g (viAt (List.map viv vs) (↑(Int.toNat (↑i : Int)) : Int))), Value.int IntKind.i64 (Vi.u (viAt (List.map viv vs) (↑(Int.toNat (↑i : Int)) : Int))), Value.int IntKind.i64 (Vi.fr (viAt (List.map viv vs) (↑(Int.toNat (↑i : Int)) : Int))), Value.int IntKind.i64 (Vi.to (viAt (List.map viv vs) (↑(Int.toNat (↑i : Int)) : Int))), Value.int IntKind.i64 (Vi.en (viAt (List.map viv vs) (↑(Int.toNat (↑i : Int)) : Int))), Value.int IntKind.i64 (Vi.er (viAt (List.map viv vs) (↑(Int.toNat (↑i : Int)) : Int))), Value.string (Vi.tx (viAt (List.map viv vs) (↑(Int.toNat (↑i : Int)) : Int)))]) 62)) T.leaf)) 3)))) (K (Value.tuple (Array.mk [Value.agg (Array.mk [Value.int IntKind.i64 m, Value.slice Option.none 0 0, Value.slice (Option.some (Go.Addr.mk 2 0 Option.none)) k 18446744073709551616]), Value.int IntKind.i64 0])) (AH.mk (T.node (T.node T.leaf (Option.some (AObj.cells [Value.int IntKind.i64 m, Value.slice Option.none 0 0, Value.slice (Option.some (Go.Addr.mk 2 0 Option.none)) k 18446744073709551616] 25)) T.leaf) (Option.some (AObj.cells [Value.int IntKind.i64 m, Value.slice Option.none 0 0, Value.slice (Option.some (Go.Addr.mk 2 0 Option.none)) k 18446744073709551616] 25)) (T.node T.leaf (Option.some (AObj.cells d 62)) T.leaf)) 3))) := by kernel_rfl
theorem jCBB_nf (K : KV) (again : KF) (m : Int) (t : Int) (ts : List Ty) (vs : List Vi) (i : Nat) (c : List Go.Value) (n : Nat) (d : List Go.Value) (k : Nat) : jCBB K again m t ts vs i c n d k = (Sp (decide ((↑i : Int) < (↑(List.length (List.map viv vs)) : Int))) ((0 ≤ (↑i : Int) ∧ (↑i : Int) < (↑(List.length (List.map viv vs)) : Int)) ∧ nth (List.map viv vs) (Int.toNat (↑(Int.toNat (↑i : Int)) : Int)) = Option.some (Value.agg (Array.mk [Value.int IntKind.i64 (Vi.g (viAt (List.map viv vs) (↑(Int.toNat (↑i : Int)) : Int))), Value.int IntKind.i64 (Vi.u (viAt (List.map viv vs) (↑(Int.toNat (↑i : Int)) : Int))), Value.int IntKind.i64 (Vi.fr (viAt (List.map viv vs) (↑(Int.toNat (↑i : Int)) : Int))), Value.int IntKind.i64 (Vi.to (viAt (List.map viv vs) (↑(Int.toNat (↑i : Int)) : Int))), Value.int IntKind.i64 (Vi.en (viAt (List.map viv vs) (↑(Int.toNat (↑i : Int)) : Int))), Value.int IntKind.i64 (Vi.er (viAt (List.map viv vs) (↑(Int.toNat (↑i : Int)) : Int))), Value.string (Vi.tx (viAt (List.map viv vs) (↑(Int.toNat (↑i : Int)) : Int)))])) ∧ Sp (decide (t < Vi.fr (viAt (List.map viv vs) (↑(Int.toNat (↑i : Int)) : Int)))) (HF (Value.func (Go.Fn.yield 7) (Array.mk (List.map viv vs)) (Array.mk [])) ∧ HF (Value.agg (Array.mk c)) ∧ HF (Value.agg (Array.mk d)) ∧ again (T.node (T.node (T.node (T.node T.leaf (Option.some (Value.pointer (Option.some (Go.Addr.mk 1 0 Option.none)))) T.leaf) Option.none T.leaf) (Option.some (Value.int IntKind.i64 t)) (T.node (T.node (T.node T.leaf Option.none (T.node T.leaf (Option.some (Value.int IntKind.i64 (↑(List.length (List.map viv vs)) : Int))) T.leaf)) Option.none T.leaf) Option.none T.leaf)) Option.none (T.node (T.node (T.node (T.node T.leaf Option.none (T.node T.leaf (Option.some (Value.func (Go.Fn.yield 7) (Array.mk (List.map viv vs)) (Array.mk []))) T.leaf)) Option.none T.leaf) (Option.some (Value.pointer (Option.some (Go.Addr.mk 0 0 Option.none)))) T.leaf) Option.none (T.node (T.node (T.node T.leaf Option.none (T.node T.leaf (Option.some (Value.int IntKind.i64 (IntKind.wrap IntKind.i64 ((↑i : Int) + 1)))) T.leaf)) Option.none T.leaf) Option.none T.leaf))) (AH.mk (T.node (T.node (T.node T.leaf (Option.some (AObj.cells d 62)) T.leaf) (Option.some (AObj.cells [Value.int IntKind.i64 m, Value.slice (Option.some (Go.Addr.mk 2 0 Option.none)) n 18446744073709551616, Value.slice (Option.some (Go.Addr.mk 3 0 Option.none)) k 18446744073709551616] 25)) T.leaf) (Option.some (AObj.cells [Value.int IntKind.i64 0, Value.slice Option.none 0 0, Value.slice Option.none 0 0] 25)) (T.node T.leaf (Option.some (AObj.cells c 59)) T.leaf)) 4)) (Sp (decide (t < Vi.to (viAt (List.map viv vs) (↑(Int.toNat (↑i : Int)) : Int)))) ((k + 1 ≤ 70368744177664 ∧ (k + 1) * 64 ≤ 140737488355328 ∧ k * 7 ≤ List.length d) ∧ HF (Value.func (Go.Fn.yield 7) (Array.mk (List.map viv vs)) (Array.mk [])) ∧ HF (Value.agg (Array.mk c)) ∧ HF (Value.agg (Array.mk (List.take (k * 7) d ++ [Value.int IntKind.i64 (Vi.g (viAt (List.map viv vs) (↑(Int.toNat (↑i : Int)) : Int))), Value.int IntKind.i64 (Vi.u (viAt (List.map viv vs) (↑(Int.toNat (↑i : Int)) : Int))), Value.int IntKind.i64 (Vi.fr (viAt (List.map viv vs) (↑(Int.toNat (↑i : Int)) : Int))), Value.int IntKind.i64 (-1), Value.int IntKind.i64 4, Value.int IntKind.i64 0, Value.string (ByteArray.mk (Array.mk []))]))) ∧ again (T.node (T.node (T.node (T.node T.leaf (Option.some (Value.pointer (Option.some (Go.Addr.mk 1 0 Option.none)))) T.leaf) Option.none T.leaf) (Option.some (Value.int IntKind.i64 t)) (T.node (T.node (T.node T.leaf Option.none (T.node T.leaf (Option.some (Value.int IntKind.i64 (↑(List.length (List.map viv vs)) : Int))) T.leaf)) Option.none T.leaf) Option.none T.leaf)) Option.none (T.node (T.node (T.node (T.node T.leaf Option.none (T.node T.leaf (Option.some (Value.func (Go.Fn.yield 7) (Array.mk (List.map viv vs)) (Array.mk []))) T.leaf)) Option.none T.leaf) (Option.some (Value.pointer (Option.some (Go.Addr.mk 0 0 Option.none)))) T.leaf) Option.none (T.node (T.node (T.node T.leaf Option.none (T.node T.leaf (Option.some (Value.int IntKind.i64 (IntKind.wrap IntKind.i64 ((↑i : Int) + 1)))) T.leaf)) Option.none T.leaf) Option.none T.leaf))) (AH.mk (T.node (T.node (T.node T.leaf (Option.some (AObj.cells (List.take (k * 7) d ++ [Value.int IntKind.i64 (Vi.g (viAt (List.map viv vs) (↑(Int.toNat (↑i : Int)) : Int))), Value.int IntKind.i64 (Vi.u (viAt (List.map viv vs) (↑(Int.toNat (↑i : Int)) : Int))), Value.int IntKind.i64 (Vi.fr (viAt (List.map viv vs) (↑(Int.toNat (↑i : Int)) : Int))), Value.int IntKind.i64 (-1), Value.int IntKind.i64 4, Value.int IntKind.i64 0, Value.string (ByteArray.mk (Array.mk []))]) 62)) T.leaf) (Option.some (AObj.cells [Value.int IntKind.i64 m, Value.slice (Option.some (Go.Addr.mk 2 0 Option.none)) n 18446744073709551616, Value.slice (Option.some (Go.Addr.mk 3 0 Option.none)) (k + 1) 18446744073709551616] 25)) T.leaf) (Option.some (AObj.cells [Value.int IntKind.i64 0, Value.slice Option.none 0 0, Value.slice Option.none 0 0] 25)) (T.node T.leaf (Option.some (AObj.cells c 59)) T.leaf)) 4)) ((k + 1 ≤ 70368744177664 ∧ (k + 1) * 64 ≤ 140737488355328 ∧ k * 7 ≤ List.length d) ∧ HF (Value.func (Go.Fn.yield 7) (Array.mk (List.map viv vs)) (Array.mk [])) ∧ HF (Value.agg (Array.mk c)) ∧ HF (Value.agg (Array.mk (List.take (k * 7) d ++ [Value.int IntKind.i64 (Vi.g (viAt (List.map viv vs) (↑(Int.toNat (↑i : Int)) : Int))), Value.int IntKind.i64 (Vi.u (viAt (List.map viv vs) (↑(Int.toNat (↑i : Int)) : Int))), Value.int IntKind.i64 (Vi.fr (viAt (List.map viv vs) (↑(Int.toNat (↑i : Int)) : Int))), Value.int IntKind.i64 (Vi.to (viAt (List.map viv vs) (↑(Int.toNat (↑i : Int)) : Int))), Value.int IntKind.i64 (Vi.en (viAt (List.map viv vs) (↑(Int.toNat (↑i : Int)) : Int))), Value.int IntKind.i64 (Vi.er (viAt (List.map viv vs) (↑(Int.toNat (↑i : Int)) : Int))), Value.string (Vi.tx (viAt (List.map viv vs) (↑(Int.toNat (↑i : Int)) : Int)))]))) ∧ again (T.node (T.node (T.node (T.node T.leaf (Option.some (Value.pointer (Option.some (Go.Addr.mk 1 0 Option.none)))) T.leaf) Option.none T.leaf) (Option.some (Value.int IntKind.i64 t)) (T.node (T.node (T.node T.leaf Option.none (T.node T.leaf (Option.some (Value.int IntKind.i64 (↑(List.length (List.map viv vs)) : Int))) T.leaf)) Option.none T.leaf) Option.none T.leaf)) Option.none (T.node (T.node (T.node (T.node T.leaf Option.none (T.node T.leaf (Option.some (Value.func (Go.Fn.yield 7) (Array.mk (List.map viv vs)) (Array.mk []))) T.leaf)) Option.none T.leaf) (Option.some (Value.pointer (Option.some (Go.Addr.mk 0 0 Option.none)))) T.leaf) Option.none (T.node (T.node (T.node T.leaf Option.none (T.node T.leaf (Option.some (Value.int IntKind.i64 (IntKind.wrap IntKind.i64 ((↑i : Int) + 1)))) T.leaf)) Option.none T.leaf) Option.none T.leaf))) (AH.mk (T.node (T.node (T.node T.leaf (Option.some (AObj.cells (List.take (k * 7) d ++ [Value.int IntKind.i64 (Vi.g (viAt (List.map viv vs) (↑(Int.toNat (↑i : Int)) : Int))), Value.int IntKind.i64 (Vi.u (viAt (List.map viv vs) (↑(Int.toNat (↑i : Int)) : Int))), Value.int IntKind.i64 (Vi.fr (viAt (List.map viv vs) (↑(Int.toNat (↑i : Int)) : Int))), Value.int IntKind.i64 (Vi.to (viAt (List.map viv vs) (↑(Int.toNat (↑i : Int)) : Int))), Value.int IntKind.i64 (Vi.en (viAt (List.map viv vs) (↑(Int.toNat (↑i : Int)) : Int))), Value.int IntKind.i64 (Vi.er (viAt (List.map viv vs) (↑(Int.toNat (↑i : Int)) : Int))), Value.string (Vi.tx (viAt (List.map viv vs) (↑(Int.toNat (↑i : Int)) : Int)))]) 62)) T.leaf) (Option.some (AObj.cells [Value.int IntKind.i64 m, Value.slice (Option.some (Go.Addr.mk 2 0 Option.none)) n 18446744073709551616, Value.slice (Option.some (Go.Addr.mk 3 0 Option.none)) (k + 1) 18446744073709551616] 25)) T.leaf) (Option.some (AObj.cells [Value.int IntKind.i64 0, Value.slice Option.none 0 0, Value.slice Option.none 0 0] 25)) (T.node T.leaf (Option.some (AObj.cells c 59)) T.leaf)) 4)))) (K (Value.tuple (Array.mk [Value.agg (Array.mk [Value.int IntKind.i64 m, Value.slice (Option.some (Go.Addr.mk 2 0 Option.none)) n 18446744073709551616, Value.slice (Option.some (Go.Addr.mk 3 0 Option.none)) k 18446744073709551616]), Value.int IntKind.i64 0])) (AH.mk (T.node (T.node (T.node T.leaf (Option.some (AObj.cells d 62)) T.leaf) (Option.some (AObj.cells [Value.int IntKind.i64 m, Value.slice (Option.some (Go.Addr.mk 2 0 Option.none)) n 18446744073709551616, Value.slice (Option.some (Go.Addr.mk 3 0 Option.none)) k 18446744073709551616] 25)) T.leaf) (Option.some (AObj.cells [Value.int IntKind.i64 m, Value.slice (Option.some (Go.Addr.mk 2 0 Option.none)) n 18446744073709551616, Value.slice (Option.some (Go.Addr.mk 3 0 Option.none)) k 18446744073709551616] 25)) (T.node T.leaf (Option.some (AObj.cells c 59)) T.leaf)) 4))) := by kernel_rfl
def cutV (t : Int) (v : Vi) : Vi := bif decide (t < v.to) then ⟨v.g, v.u, v.fr, -1, 4, 0, ⟨⟨[]⟩⟩⟩ else v
def addV (t : Int) (ys : List Vi) (v : Vi) : List Vi := bif decide (t < v.fr) then ys else ys ++ [cutV t v]
def keepV (t : Int) (vs : List Vi) : List Vi := vs.foldl (addV t) []
def addT (t : Int) (ys : List Ty) (x : Ty) : List Ty := bif decide (x.se ≤ t) then ys ++ [cutT t x] else ys
def keepT (t : Int) (ts : List Ty) : List Ty := ts.foldl (addT t) []
theorem keepV_step {t : Int} {vs : List Vi} {i : Nat} (h : i < vs.length) : keepV t (vs.take (i + 1)) = addV t (keepV t (vs.take i)) vs[i] := by
  unfold keepV
  rw [List.take_succ_eq_append_getElem h, List.foldl_append]; rfl
theorem keepT_step {t : Int} {ts : List Ty} {i : Nat} (h : i < ts.length) : keepT t (ts.take (i + 1)) = addT t (keepT t (ts.take i)) ts[i] := by
  unfold keepT
  rw [List.take_succ_eq_append_getElem h, List.foldl_append]; rfl
theorem addV_len (t : Int) (ys : List Vi) (v : Vi) : (addV t ys v).length ≤ ys.length + 1 := by
  unfold addV
  cases decide (t < v.fr) <;> simp
theorem addT_len (t : Int) (ys : List Ty) (x : Ty) : (addT t ys x).length ≤ ys.length + 1 := by
  unfold addT
  cases decide (x.se ≤ t) <;> simp
theorem len_ty : ∀ ys : List Ty, (cellsL (ys.map tyv)).length = ys.length * 16
  | [] => rfl
  | y :: ys => by
    rw [List.map_cons, cellsL_cons, List.length_append, len_ty ys]
    show 16 + ys.length * 16 = (ys.length + 1) * 16
    omega
theorem len_vi : ∀ ys : List Vi, (cellsL (ys.map viv)).length = ys.length * 7
  | [] => rfl
  | y :: ys => by
    rw [List.map_cons, cellsL_cons, List.length_append, len_vi ys]
    show 7 + ys.length * 7 = (ys.length + 1) * 7
    omega
theorem snoc_ty (ys : List Ty) (y : Ty) : List.take (ys.length * 16) (cellsL (ys.map tyv)) ++ (tyv y).cells.toList = cellsL ((ys ++ [y]).map tyv) := by
  rw [List.take_of_length_le (by rw [len_ty]; omega), List.map_append, cellsL_append]
  simp [cellsL]
theorem snoc_vi (ys : List Vi) (y : Vi) : List.take (ys.length * 7) (cellsL (ys.map viv)) ++ (viv y).cells.toList = cellsL ((ys ++ [y]).map viv) := by
  rw [List.take_of_length_le (by rw [len_vi]; omega), List.map_append, cellsL_append]
  simp [cellsL]
theorem HF_cty (ys : List Ty) : HF (.agg ⟨cellsL (ys.map tyv)⟩) := .agg fun x hx => by
  obtain ⟨y, hy, hx⟩ := List.mem_flatMap.1 hx
  obtain ⟨z, _, rfl⟩ := List.mem_map.1 hy
  exact HF_agg (HF_ty z) x hx
theorem HF_cvi (ys : List Vi) : HF (.agg ⟨cellsL (ys.map viv)⟩) := .agg fun x hx => by
  obtain ⟨y, hy, hx⟩ := List.mem_flatMap.1 hx
  obtain ⟨z, _, rfl⟩ := List.mem_map.1 hy
  exact HF_agg (HF_vi z) x hx
/-- The heap in the loop over the visits. -/
def heapV (m : Int) (xs : List Ty) (ys : List Vi) : AH := match xs, ys with
  | [], [] => hNN m
  | x :: xs, [] => hBN m (cellsL ((x :: xs).map tyv)) (x :: xs).length
  | [], y :: ys => hNB m (cellsL ((y :: ys).map viv)) (y :: ys).length
  | x :: xs, y :: ys => hBB m (cellsL ((x :: xs).map tyv)) (x :: xs).length (cellsL ((y :: ys).map viv)) (y :: ys).length
def wantL (m : Int) (xs : List Ty) (ys : List Vi) (e : Int) : Value := .tuple ⟨[.agg ⟨[.int .i64 m, dat 16 (xs.map tyv), dat 7 (ys.map viv)]⟩, .int .i64 e]⟩
theorem frz_ty {A : AH} {B n : Nat} {ys : List Ty} (hl : AM.look A B = some (cellsL (ys.map tyv))) (hn : n = ys.length) (hc : n ≤ unk) : Frz A (.slice (some ⟨B, 0, none⟩) n unk) (dat 16 (ys.map tyv)) := by
  subst hn
  have e : ((cellsL (ys.map tyv)).drop 0).take (ys.length * 16) = cellsL (ys.map tyv) := by rw [List.drop_zero]; exact List.take_of_length_le (by rw [len_ty]; omega)
  refine .slice hl (by rw [List.drop_zero, len_ty]; omega) hc (c2 := cellsL (ys.map tyv)) (by rw [e]; exact FrzL.same (HF_agg (HF_cty ys))) rfl (fun x hx => ?_) (by simp)
  obtain ⟨m, _, rfl⟩ := List.mem_map.1 hx
  rfl
theorem frz_vi {A : AH} {B n : Nat} {ys : List Vi} (hl : AM.look A B = some (cellsL (ys.map viv))) (hn : n = ys.length) (hc : n ≤ unk) : Frz A (.slice (some ⟨B, 0, none⟩) n unk) (dat 7 (ys.map viv)) := by
  subst hn
  have e : ((cellsL (ys.map viv)).drop 0).take (ys.length * 7) = cellsL (ys.map viv) := by rw [List.drop_zero]; exact List.take_of_length_le (by rw [len_vi]; omega)
  refine .slice hl (by rw [List.drop_zero, len_vi]; omega) hc (c2 := cellsL (ys.map viv)) (by rw [e]; exact FrzL.same (HF_agg (HF_cvi ys))) rfl (fun x hx => ?_) (by simp)
  obtain ⟨m, _, rfl⟩ := List.mem_map.1 hx
  rfl
theorem cV_yes {t : Int} {v : Vi} (h : decide (t < v.to) = true) : cutV t v = ⟨v.g, v.u, v.fr, -1, 4, 0, ⟨⟨[]⟩⟩⟩ := by simp only [cutV, h, cond_true]
theorem cV_no {t : Int} {v : Vi} (h : decide (t < v.to) = false) : cutV t v = v := by simp only [cutV, h, cond_false]
theorem CW_loop2 (u m t : Int) (ts : List Ty) (vs : List Vi) (xs : List Ty) (hx : xs.length ≤ 20000) (hv : vs.length ≤ 100000) (K : KV) (hK : ∀ v A, Frz A v (wantL m xs (keepV t vs) 0) → K v A) :
    LAt (XW ts vs) 1 (Func.ntmps Proofs.Tryz.f7) (bodyOf Proofs.Tryz.f7) [1, 1, 1, 1, 1, 0, 1, 0] (finK (XW ts vs).E (Proofs.Tryz.f7.results).toList K) (frC2 t (vs.map viv) 0) (heapV m xs []) := by
  refine LAt.stepA (XW_ok ts vs) [59, 62] [1, 4, 7, 48, 49, 50] (by kernel_rfl) (fun k F A => ∃ i : Nat, F = frC2 t (vs.map viv) i ∧ A = heapV m xs (keepV t (vs.take i)) ∧ i + k = vs.length ∧ (keepV t (vs.take i)).length ≤ i) ?_ (k := vs.length) ⟨0, rfl, rfl, by simp, by simp [keepV]⟩
  rintro k F A ⟨i, rfl, rfl, hk, hi⟩
  by_cases hlt : i < vs.length
  · have hs := keepV_step (t := t) hlt
    have hat := vi_at hlt
    have hl2 := addV_len t (keepV t (vs.take i)) vs[i]
    rw [← hs] at hl2
    generalize keepV t (vs.take i) = ys at hs hi hl2 ⊢
    have e0 : decide ((i : Int) < ((vs.map viv).length : Int)) = true := by simp; exact hlt
    have go : ∀ F1 A1, F1 = frC2 t (vs.map viv) (i + 1) → A1 = heapV m xs (addV t ys vs[i]) → ∃ k', k' < k ∧ ∃ i : Nat, F1 = frC2 t (vs.map viv) i ∧ A1 = heapV m xs (keepV t (vs.take i)) ∧ i + k' = vs.length ∧ (keepV t (vs.take i)).length ≤ i := fun F1 A1 h1 h3 => ⟨k - 1, by omega, i + 1, h1, by rw [hs]; exact h3, by omega, by omega⟩
    have hw : Value.int .i64 (IntKind.i64.wrap ((i : Int) + 1)) = .int .i64 ((i + 1 : Nat) : Int) := idx_succ (by omega)
    cases xs with
    | nil =>
      cases ys with
      | nil =>
        refine (jCNN_nf _ _ m t ts vs i).mpr ?_
        simp only [e0, Sp_true, Int.toNat_natCast, hat, hw]
        refine ⟨vi_b hlt, vi_nth hlt, Sp.intro (fun h => ⟨HF_vis vs, go _ _ rfl (by simp only [addV, h, cond_true]; rfl)⟩) (fun h => Sp.intro (fun h1 => ?_) (fun h1 => ?_))⟩
        · refine ⟨HF_vis vs, HF_vi ⟨vs[i].g, vs[i].u, vs[i].fr, -1, 4, 0, ⟨⟨[]⟩⟩⟩, go _ _ rfl ?_⟩
          simp only [addV, h, cond_false, cV_yes h1]; rfl
        · refine ⟨HF_vis vs, HF_vi _, go _ _ rfl ?_⟩
          simp only [addV, h, cond_false, cV_no h1]; rfl
      | cons y ys =>
        have hb3 : (y :: ys).length + 1 ≤ 70368744177664 ∧ ((y :: ys).length + 1) * 64 ≤ 140737488355328 ∧ (y :: ys).length * 7 ≤ (cellsL ((y :: ys).map viv)).length := ⟨by omega, by omega, by rw [len_vi]; omega⟩
        have hf3 : ∀ w : Vi, HF (.agg ⟨List.take ((y :: ys).length * 7) (cellsL ((y :: ys).map viv)) ++ (viv w).cells.toList⟩) := fun w => by rw [snoc_vi]; exact HF_cvi _
        refine (jCNB_nf _ _ m t ts vs i (cellsL ((y :: ys).map viv)) (y :: ys).length).mpr ?_
        simp only [e0, Sp_true, Int.toNat_natCast, hat, hw]
        refine ⟨vi_b hlt, vi_nth hlt, Sp.intro (fun h => ⟨HF_vis vs, HF_cvi _, go _ _ rfl (by simp only [addV, h, cond_true]; rfl)⟩) (fun h => Sp.intro (fun h1 => ?_) (fun h1 => ?_))⟩
        · refine ⟨hb3, HF_vis vs, hf3 ⟨vs[i].g, vs[i].u, vs[i].fr, -1, 4, 0, ⟨⟨[]⟩⟩⟩, go _ _ rfl ?_⟩
          simp only [addV, h, cond_false, cV_yes h1]
          show _ = hNB m (cellsL (((y :: ys) ++ [(⟨vs[i].g, vs[i].u, vs[i].fr, -1, 4, 0, ⟨⟨[]⟩⟩⟩ : Vi)]).map viv)) ((y :: ys) ++ [(⟨vs[i].g, vs[i].u, vs[i].fr, -1, 4, 0, ⟨⟨[]⟩⟩⟩ : Vi)]).length
          rw [← snoc_vi, List.length_append]
          rfl
        · refine ⟨hb3, HF_vis vs, hf3 vs[i], go _ _ rfl ?_⟩
          simp only [addV, h, cond_false, cV_no h1]
          show _ = hNB m (cellsL (((y :: ys) ++ [(vs[i] : Vi)]).map viv)) ((y :: ys) ++ [(vs[i] : Vi)]).length
          rw [← snoc_vi, List.length_append]
          rfl
    | cons x xs =>
      cases ys with
      | nil =>
        refine (jCBN_nf _ _ m t ts vs i (cellsL ((x :: xs).map tyv)) (x :: xs).length).mpr ?_
        simp only [e0, Sp_true, Int.toNat_natCast, hat, hw]
        refine ⟨vi_b hlt, vi_nth hlt, Sp.intro (fun h => ⟨HF_vis vs, HF_cty _, go _ _ rfl (by simp only [addV, h, cond_true]; rfl)⟩) (fun h => Sp.intro (fun h1 => ?_) (fun h1 => ?_))⟩
        · refine ⟨HF_vis vs, HF_cty _, HF_vi ⟨vs[i].g, vs[i].u, vs[i].fr, -1, 4, 0, ⟨⟨[]⟩⟩⟩, go _ _ rfl ?_⟩
          simp only [addV, h, cond_false, cV_yes h1]; rfl
        · refine ⟨HF_vis vs, HF_cty _, HF_vi _, go _ _ rfl ?_⟩
          simp only [addV, h, cond_false, cV_no h1]; rfl
      | cons y ys =>
        have hb3 : (y :: ys).length + 1 ≤ 70368744177664 ∧ ((y :: ys).length + 1) * 64 ≤ 140737488355328 ∧ (y :: ys).length * 7 ≤ (cellsL ((y :: ys).map viv)).length := ⟨by omega, by omega, by rw [len_vi]; omega⟩
        have hf3 : ∀ w : Vi, HF (.agg ⟨List.take ((y :: ys).length * 7) (cellsL ((y :: ys).map viv)) ++ (viv w).cells.toList⟩) := fun w => by rw [snoc_vi]; exact HF_cvi _
        refine (jCBB_nf _ _ m t ts vs i (cellsL ((x :: xs).map tyv)) (x :: xs).length (cellsL ((y :: ys).map viv)) (y :: ys).length).mpr ?_
        simp only [e0, Sp_true, Int.toNat_natCast, hat, hw]
        refine ⟨vi_b hlt, vi_nth hlt, Sp.intro (fun h => ⟨HF_vis vs, HF_cty _, HF_cvi _, go _ _ rfl (by simp only [addV, h, cond_true]; rfl)⟩) (fun h => Sp.intro (fun h1 => ?_) (fun h1 => ?_))⟩
        · refine ⟨hb3, HF_vis vs, HF_cty _, hf3 ⟨vs[i].g, vs[i].u, vs[i].fr, -1, 4, 0, ⟨⟨[]⟩⟩⟩, go _ _ rfl ?_⟩
          simp only [addV, h, cond_false, cV_yes h1]
          show _ = hBB m (cellsL ((x :: xs).map tyv)) (x :: xs).length (cellsL (((y :: ys) ++ [(⟨vs[i].g, vs[i].u, vs[i].fr, -1, 4, 0, ⟨⟨[]⟩⟩⟩ : Vi)]).map viv)) ((y :: ys) ++ [(⟨vs[i].g, vs[i].u, vs[i].fr, -1, 4, 0, ⟨⟨[]⟩⟩⟩ : Vi)]).length
          rw [← snoc_vi, List.length_append]
          rfl
        · refine ⟨hb3, HF_vis vs, HF_cty _, hf3 vs[i], go _ _ rfl ?_⟩
          simp only [addV, h, cond_false, cV_no h1]
          show _ = hBB m (cellsL ((x :: xs).map tyv)) (x :: xs).length (cellsL (((y :: ys) ++ [(vs[i] : Vi)]).map viv)) ((y :: ys) ++ [(vs[i] : Vi)]).length
          rw [← snoc_vi, List.length_append]
          rfl
  · have hall : vs.take i = vs := List.take_of_length_le (by omega)
    rw [hall] at hi ⊢
    have e0 : decide ((i : Int) < ((vs.map viv).length : Int)) = false := by simp; omega
    have hy : (keepV t vs).length ≤ unk := by unfold unk; omega
    have hx' : xs.length ≤ unk := by unfold unk; omega
    generalize keepV t vs = ys at hK hi hy ⊢
    cases xs with
    | nil =>
      cases ys with
      | nil =>
        refine (jCNN_nf _ _ m t ts vs i).mpr ?_
        simp only [e0, Sp_false]
        exact hK _ _ (.tuple (.cons (.agg (.cons (.same (HFi _ _)) (.cons (.nils 16) (.cons (.nils 7) .nil)))) (.cons (.same (HFi _ _)) .nil)))
      | cons y ys =>
        refine (jCNB_nf _ _ m t ts vs i (cellsL ((y :: ys).map viv)) (y :: ys).length).mpr ?_
        simp only [e0, Sp_false]
        exact hK _ _ (.tuple (.cons (.agg (.cons (.same (HFi _ _)) (.cons (.nils 16) (.cons (frz_vi rfl rfl hy) .nil)))) (.cons (.same (HFi _ _)) .nil)))
    | cons x xs =>
      cases ys with
      | nil =>
        refine (jCBN_nf _ _ m t ts vs i (cellsL ((x :: xs).map tyv)) (x :: xs).length).mpr ?_
        simp only [e0, Sp_false]
        exact hK _ _ (.tuple (.cons (.agg (.cons (.same (HFi _ _)) (.cons (frz_ty rfl rfl hx') (.cons (.nils 7) .nil)))) (.cons (.same (HFi _ _)) .nil)))
      | cons y ys =>
        refine (jCBB_nf _ _ m t ts vs i (cellsL ((x :: xs).map tyv)) (x :: xs).length (cellsL ((y :: ys).map viv)) (y :: ys).length).mpr ?_
        simp only [e0, Sp_false]
        exact hK _ _ (.tuple (.cons (.agg (.cons (.same (HFi _ _)) (.cons (frz_ty rfl rfl hx') (.cons (frz_vi rfl rfl hy) .nil)))) (.cons (.same (HFi _ _)) .nil)))
end
end Go.T9
set_option maxRecDepth 1000000
set_option linter.unusedVariables false
set_option linter.unusedSimpArgs false
set_option maxHeartbeats 4000000
namespace Go.T9
open Go Go.AM
noncomputable section
/-- The heap in the loop over the tries. -/
def heapT (u m : Int) (ts : List Ty) (vs : List Vi) (xs : List Ty) : AH := match xs with
  | [] => hN u m (ts.map tyv) (vs.map viv)
  | x :: xs => hC u m (ts.map tyv) (vs.map viv) (cellsL ((x :: xs).map tyv)) (x :: xs).length
theorem keepT_len (t : Int) (ts : List Ty) : ∀ i, (keepT t (ts.take i)).length ≤ i
  | 0 => by simp [keepT]
  | i + 1 => by
    by_cases h : i < ts.length
    · rw [keepT_step h]
      have := addT_len t (keepT t (ts.take i)) ts[i]
      have := keepT_len t ts i
      omega
    · have e : ts.take (i + 1) = ts.take i := by rw [List.take_of_length_le (by omega), List.take_of_length_le (by omega)]
      rw [e]
      have := keepT_len t ts i
      omega
theorem CW_loop1 (u m t : Int) (ts : List Ty) (vs : List Vi) (ht : ts.length ≤ 20000) (hv : vs.length ≤ 100000) (K : KV) (hK : ∀ v A, Frz A v (wantL m (keepT t ts) (keepV t vs) 0) → K v A) :
    LAt (XW ts vs) 1 (Func.ntmps Proofs.Tryz.f7) (bodyOf Proofs.Tryz.f7) [1, 1, 1, 1, 0, 1, 0] (finK (XW ts vs).E (Proofs.Tryz.f7.results).toList K) (frC1 t (ts.map tyv) 0) (heapT u m ts vs []) := by
  refine LAt.stepA (XW_ok ts vs) [59, 62] [1, 2, 4, 7, 28, 29, 30] (by kernel_rfl) (fun k F A => ∃ i : Nat, F = frC1 t (ts.map tyv) i ∧ A = heapT u m ts vs (keepT t (ts.take i)) ∧ i + k = ts.length) ?_ (k := ts.length) ⟨0, rfl, rfl, by simp⟩
  rintro k F A ⟨i, rfl, rfl, hk⟩
  have hi := keepT_len t ts i
  by_cases hlt : i < ts.length
  · have hs := keepT_step (t := t) hlt
    have hat := ty_at hlt
    generalize keepT t (ts.take i) = xs at hs hi ⊢
    have e0 : decide ((i : Int) < ((ts.map tyv).length : Int)) = true := by simp; exact hlt
    have go : ∀ F1 A1, F1 = frC1 t (ts.map tyv) (i + 1) → A1 = heapT u m ts vs (addT t xs ts[i]) → ∃ k', k' < k ∧ ∃ i : Nat, F1 = frC1 t (ts.map tyv) i ∧ A1 = heapT u m ts vs (keepT t (ts.take i)) ∧ i + k' = ts.length := fun F1 A1 h1 h3 => ⟨k - 1, by omega, i + 1, h1, by rw [hs]; exact h3, by omega⟩
    have hw : Value.int .i64 (IntKind.i64.wrap ((i : Int) + 1)) = .int .i64 ((i + 1 : Nat) : Int) := idx_succ (by omega)
    cases xs with
    | nil =>
      refine (jCWn_nf _ _ u m t ts vs i).mpr ?_
      simp only [e0, Sp_true, Int.toNat_natCast, hat, hw]
      refine ⟨ty_b hlt, ty_nth hlt, Sp.intro (fun h => ⟨trivial, HF_tys ts, HF_tys ts, HF_vis vs, HF_ty (cutT t ts[i]), go _ _ rfl ?_⟩) (fun h => ⟨HF_tys ts, HF_tys ts, HF_vis vs, go _ _ rfl ?_⟩)⟩
      · simp only [addT, h, cond_true]; rfl
      · simp only [addT, h, cond_false]; rfl
    | cons x xs =>
      have hb3 : (x :: xs).length + 1 ≤ 70368744177664 ∧ ((x :: xs).length + 1) * 136 ≤ 140737488355328 ∧ (x :: xs).length * 16 ≤ (cellsL ((x :: xs).map tyv)).length := ⟨by omega, by omega, by rw [len_ty]; omega⟩
      have hf3 : ∀ w : Ty, HF (.agg ⟨List.take ((x :: xs).length * 16) (cellsL ((x :: xs).map tyv)) ++ (tyv w).cells.toList⟩) := fun w => by rw [snoc_ty]; exact HF_cty _
      refine (jCWb_nf _ _ u m t ts vs i (cellsL ((x :: xs).map tyv)) (x :: xs).length).mpr ?_
      simp only [e0, Sp_true, Int.toNat_natCast, hat, hw]
      refine ⟨ty_b hlt, ty_nth hlt, Sp.intro (fun h => ⟨trivial, hb3, HF_tys ts, HF_tys ts, HF_vis vs, hf3 (cutT t ts[i]), go _ _ rfl ?_⟩) (fun h => ⟨HF_tys ts, HF_tys ts, HF_vis vs, HF_cty _, go _ _ rfl ?_⟩)⟩
      · simp only [addT, h, cond_true]
        show _ = hC u m (ts.map tyv) (vs.map viv) (cellsL (((x :: xs) ++ [cutT t ts[i]]).map tyv)) ((x :: xs) ++ [cutT t ts[i]]).length
        rw [← snoc_ty, List.length_append]
        rfl
      · simp only [addT, h, cond_false]; rfl
  · have hall : ts.take i = ts := List.take_of_length_le (by omega)
    rw [hall] at hi ⊢
    have e0 : decide ((i : Int) < ((ts.map tyv).length : Int)) = false := by simp; omega
    have hx : (keepT t ts).length ≤ 20000 := by omega
    generalize keepT t ts = xs at hK hi hx ⊢
    cases xs with
    | nil =>
      refine (jCWn_nf _ _ u m t ts vs i).mpr ?_
      simp only [e0, Sp_false]
      exact ⟨HF_vis vs, CW_loop2 u m t ts vs [] hx hv K hK⟩
    | cons x xs =>
      refine (jCWb_nf _ _ u m t ts vs i (cellsL ((x :: xs).map tyv)) (x :: xs).length).mpr ?_
      simp only [e0, Sp_false]
      exact ⟨HF_vis vs, HF_cty _, CW_loop2 u m t ts vs (x :: xs) hx hv K hK⟩
def cutE (u t : Int) (ts : List Ty) (vs : List Vi) : Int := bif decide (logE u ts vs = 0) then (bif isIn t 0 1000000000000 then 0 else 9) else logE u ts vs
def wantC (u t : Int) (ts : List Ty) (vs : List Vi) : Value := bif decide (logE u ts vs = 0) && isIn t 0 1000000000000 then wantL (min u t) (keepT t ts) (keepV t vs) 0 else wantL 0 [] [] (cutE u t ts vs)
theorem frz0 {A : AH} (e : Int) : Frz A (.tuple ⟨[.agg ⟨[.int .i64 0, .slice none 0 0, .slice none 0 0]⟩, .int .i64 e]⟩) (wantL 0 [] [] e) := .tuple (.cons (.agg (.cons (.same (HFi _ _)) (.cons (.nils 16) (.cons (.nils 7) .nil)))) (.cons (.same (HFi _ _)) .nil))
theorem logE0 {u : Int} {ts : List Ty} {vs : List Vi} (h : logE u ts vs = 0) : ts.length ≤ 20000 ∧ vs.length ≤ 100000 := by
  unfold logE at h
  cases h1 : isIn u 0 1000000000000 with
  | false => rw [h1] at h; simp at h
  | true =>
    rw [h1] at h
    simp only [cond_true] at h
    cases h2 : (decide (20000 < ts.length) || decide (100000 < vs.length)) with
    | true => rw [h2] at h; simp at h
    | false => simp at h2; exact h2
theorem CW_walk (u t : Int) (ts : List Ty) (vs : List Vi) : Walk env Proofs.Tryz.f7 [logv u (ts.map tyv) (vs.map viv), .int .i64 t] (wantC u t ts vs) := by
  refine sxFn_frz (XW_ok ts vs) (d := 1) ((jCW_nf _ u t ts vs).mpr ?_)
  refine ⟨⟨rfl, rfl⟩, Sp.intro (fun h => ?_) (fun h => Sp.intro (fun h1 => ?_) (fun h1 => ?_))⟩
  · rw [Bool.not_eq_true'] at h
    have e : wantC u t ts vs = wantL 0 [] [] (logE u ts vs) := by simp only [wantC, cutE, h, Bool.false_and, cond_false]
    rw [e]
    exact frz0 _
  · rw [Bool.not_eq_false'] at h
    rw [Bool.not_eq_true'] at h1
    have e : wantC u t ts vs = wantL 0 [] [] 9 := by simp only [wantC, cutE, isIn, h, h1, Bool.and_false, cond_false, cond_true]
    rw [e]
    exact frz0 _
  · rw [Bool.not_eq_false'] at h h1
    have e : wantC u t ts vs = wantL (min u t) (keepT t ts) (keepV t vs) 0 := by simp only [wantC, isIn, h, h1, Bool.and_self, cond_true]
    obtain ⟨ht, hv⟩ := logE0 (of_decide_eq_true h)
    rw [e]
    exact ⟨HF_tys ts, HF_tys ts, HF_vis vs, CW_loop1 u (min u t) t ts vs ht hv _ (fun v A h => h)⟩
end
end Go.T9
