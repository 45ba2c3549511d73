/- A part of the proof. -/
import Derived.Test.YtplabpmicdbglaaGreatDoorY0
import Derived.KernelRfl
set_option maxRecDepth 1000000
set_option linter.unusedVariables false
set_option linter.unusedSimpArgs false
namespace Go.T9
open Go Go.AM
noncomputable section
structure Ty where
  (g u a y : Int)
  (nm : ByteArray)
  (sn se ca be le ba en oc su sb fa : Int)
def tyv (x : Ty) : Value := .agg ⟨[.int .i64 x.g, .int .i64 x.u, .int .i64 x.a, .int .i64 x.y, .string x.nm, .int .i64 x.sn, .int .i64 x.se, .int .i64 x.ca, .int .i64 x.be, .int .i64 x.le, .int .i64 x.ba, .int .i64 x.en, .int .i64 x.oc, .int .i64 x.su, .int .i64 x.sb, .int .i64 x.fa]⟩
structure Vi where
  (g u fr to en er : Int)
  (tx : ByteArray)
def viv (x : Vi) : Value := .agg ⟨[.int .i64 x.g, .int .i64 x.u, .int .i64 x.fr, .int .i64 x.to, .int .i64 x.en, .int .i64 x.er, .string x.tx]⟩
theorem HFs' (s : ByteArray) : HF (.string s) := .scal rfl
theorem HF_ty (x : Ty) : HF (tyv x) := .agg (HF.cons (HFi _ _) (HF.cons (HFi _ _) (HF.cons (HFi _ _) (HF.cons (HFi _ _) (HF.cons (HFs' _) (HF.cons (HFi _ _) (HF.cons (HFi _ _) (HF.cons (HFi _ _) (HF.cons (HFi _ _) (HF.cons (HFi _ _) (HF.cons (HFi _ _) (HF.cons (HFi _ _) (HF.cons (HFi _ _) (HF.cons (HFi _ _) (HF.cons (HFi _ _) (HF.cons (HFi _ _) HF.nil))))))))))))))))
theorem HF_vi (x : Vi) : HF (viv x) := .agg (HF.cons (HFi _ _) (HF.cons (HFi _ _) (HF.cons (HFi _ _) (HF.cons (HFi _ _) (HF.cons (HFi _ _) (HF.cons (HFi _ _) (HF.cons (HFs' _) HF.nil)))))))
theorem HF_tys (l : List Ty) : HF (dat 16 (l.map tyv)) := .dat fun y hy => by
  obtain ⟨x, _, rfl⟩ := List.mem_map.1 hy
  exact HF_ty x
theorem HF_vis (l : List Vi) : HF (dat 7 (l.map viv)) := .dat fun y hy => by
  obtain ⟨x, _, rfl⟩ := List.mem_map.1 hy
  exact HF_vi x
def isIn (n a b : Int) : Bool := decide (a ≤ n) && decide (n ≤ b)
def XU : SX := ⟨env, tabI, noEl, fun _ => .unroll 6⟩
theorem XU_ok : XU.Ok := ⟨env_ok, env_sym, env_gl, tabI_ok⟩
def jRng (Q : Value → Prop) (QA : KV) (x : Ty) (u : Int) : Prop := sxFn XU 1 Proofs.Tryz.f56 [tyv x, .int .i64 u] (leafK Q QA)
def jOrd (Q : Value → Prop) (QA : KV) (x : Ty) (u : Int) : Prop := sxFn XU 1 Proofs.Tryz.f57 [tyv x, .int .i64 u] (leafK Q QA)
def jVis (Q : Value → Prop) (QA : KV) (x : Vi) (u : Int) : Prop := sxFn XU 1 Proofs.Tryz.f35 [viv x, .int .i64 u] (leafK Q QA)
def jVisR (Q : Value → Prop) (QA : KV) (x : Vi) (u : Int) (ts vs : List Value) : Prop := sxFn XU 1 Proofs.Tryz.f37 [.agg ⟨[.int .i64 u, dat 16 ts, dat 7 vs]⟩, viv x] (leafK Q QA)
def jCutT (Q : Value → Prop) (QA : KV) (x : Ty) (t : Int) : Prop := sxFn XU 1 Proofs.Tryz.f31 [tyv x, .int .i64 t] (leafK Q QA)
def jCutN (Q : Value → Prop) (QA : KV) (n t : Int) : Prop := sxFn XU 1 Proofs.Tryz.f33 [.int .i64 n, .int .i64 t] (leafK Q QA)
end
end Go.T9
set_option maxRecDepth 1000000
set_option linter.unusedVariables false
set_option linter.unusedSimpArgs false
namespace Go.T9
open Go Go.AM
noncomputable section
theorem jRng_nf (Q : Go.Value → Prop) (QA : KV) (x : Ty) (u : Int) : jRng Q QA x u = (Sp (decide (0 ≤ Ty.g x) && decide (Ty.g x ≤ 19)) (Sp (decide (0 ≤ Ty.u x) && decide (Ty.u x ≤ 4999)) (Sp (decide (0 ≤ Ty.a x) && decide (Ty.a x ≤ 1999)) (Sp (decide (0 ≤ Ty.y x) && decide (Ty.y x ≤ 9)) (Sp (decide (-1 ≤ Ty.sn x) && decide (Ty.sn x ≤ 49)) (Sp (decide (1 ≤ Ty.oc x) && decide (Ty.oc x ≤ 4)) (Sp (decide (0 ≤ Ty.su x) && decide (Ty.su x ≤ 599)) (Sp (decide (-1 ≤ Ty.sb x) && decide (Ty.sb x ≤ 199)) (Sp (decide (0 ≤ Ty.fa x) && decide (Ty.fa x ≤ 50)) (Q (Value.bool (decide (0 ≤ Ty.se x) && decide (Ty.se x ≤ u)))) (Q (Value.bool Bool.false))) (Q (Value.bool Bool.false))) (Q (Value.bool Bool.false))) (Q (Value.bool Bool.false))) (Q (Value.bool Bool.false))) (Q (Value.bool Bool.false))) (Q (Value.bool Bool.false))) (Q (Value.bool Bool.false))) (Q (Value.bool Bool.false))) := by kernel_rfl
theorem jOrd_nf (Q : Go.Value → Prop) (QA : KV) (x : Ty) (u : Int) : jOrd Q QA x u = (Sp (decide (Ty.ca x = -1)) (Sp (decide (Ty.be x = -1)) (Sp (decide (Ty.le x = -1)) (Sp (decide (Ty.ba x = -1)) (Q (Value.bool Bool.true)) (Sp (decide (Ty.ba x < Ty.se x)) (Q (Value.bool Bool.false)) (Sp (decide (u < Ty.ba x)) (Q (Value.bool Bool.false)) (Q (Value.bool Bool.true))))) (Sp (decide (Ty.le x < Ty.se x)) (Q (Value.bool Bool.false)) (Sp (decide (u < Ty.le x)) (Q (Value.bool Bool.false)) (Sp (decide (Ty.ba x = -1)) (Q (Value.bool Bool.true)) (Sp (decide (Ty.ba x < Ty.le x)) (Q (Value.bool Bool.false)) (Sp (decide (u < Ty.ba x)) (Q (Value.bool Bool.false)) (Q (Value.bool Bool.true)))))))) (Sp (decide (Ty.be x < Ty.se x)) (Q (Value.bool Bool.false)) (Sp (decide (u < Ty.be x)) (Q (Value.bool Bool.false)) (Sp (decide (Ty.le x = -1)) (Sp (decide (Ty.ba x = -1)) (Q (Value.bool Bool.true)) (Sp (decide (Ty.ba x < Ty.be x)) (Q (Value.bool Bool.false)) (Sp (decide (u < Ty.ba x)) (Q (Value.bool Bool.false)) (Q (Value.bool Bool.true))))) (Sp (decide (Ty.le x < Ty.be x)) (Q (Value.bool Bool.false)) (Sp (decide (u < Ty.le x)) (Q (Value.bool Bool.false)) (Sp (decide (Ty.ba x = -1)) (Q (Value.bool Bool.true)) (Sp (decide (Ty.ba x < Ty.le x)) (Q (Value.bool Bool.false)) (Sp (decide (u < Ty.ba x)) (Q (Value.bool Bool.false)) (Q (Value.bool Bool.true))))))))))) (Sp (decide (Ty.ca x < Ty.se x)) (Q (Value.bool Bool.false)) (Sp (decide (u < Ty.ca x)) (Q (Value.bool Bool.false)) (Sp (decide (Ty.be x = -1)) (Sp (decide (Ty.le x = -1)) (Sp (decide (Ty.ba x = -1)) (Q (Value.bool Bool.true)) (Sp (decide (Ty.ba x < Ty.ca x)) (Q (Value.bool Bool.false)) (Sp (decide (u < Ty.ba x)) (Q (Value.bool Bool.false)) (Q (Value.bool Bool.true))))) (Sp (decide (Ty.le x < Ty.ca x)) (Q (Value.bool Bool.false)) (Sp (decide (u < Ty.le x)) (Q (Value.bool Bool.false)) (Sp (decide (Ty.ba x = -1)) (Q (Value.bool Bool.true)) (Sp (decide (Ty.ba x < Ty.le x)) (Q (Value.bool Bool.false)) (Sp (decide (u < Ty.ba x)) (Q (Value.bool Bool.false)) (Q (Value.bool Bool.true)))))))) (Sp (decide (Ty.be x < Ty.ca x)) (Q (Value.bool Bool.false)) (Sp (decide (u < Ty.be x)) (Q (Value.bool Bool.false)) (Sp (decide (Ty.le x = -1)) (Sp (decide (Ty.ba x = -1)) (Q (Value.bool Bool.true)) (Sp (decide (Ty.ba x < Ty.be x)) (Q (Value.bool Bool.false)) (Sp (decide (u < Ty.ba x)) (Q (Value.bool Bool.false)) (Q (Value.bool Bool.true))))) (Sp (decide (Ty.le x < Ty.be x)) (Q (Value.bool Bool.false)) (Sp (decide (u < Ty.le x)) (Q (Value.bool Bool.false)) (Sp (decide (Ty.ba x = -1)) (Q (Value.bool Bool.true)) (Sp (decide (Ty.ba x < Ty.le x)) (Q (Value.bool Bool.false)) (Sp (decide (u < Ty.ba x)) (Q (Value.bool Bool.false)) (Q (Value.bool Bool.true)))))))))))))) := by kernel_rfl
theorem jVis_nf (Q : Go.Value → Prop) (QA : KV) (x : Vi) (u : Int) : jVis Q QA x u = (Sp (!(decide (0 ≤ Vi.g x) && decide (Vi.g x ≤ 19))) (Q (Value.int .i64 9)) (Sp (!(decide (0 ≤ Vi.u x) && decide (Vi.u x ≤ 4999))) (Q (Value.int .i64 9)) (Sp (!(decide (0 ≤ Vi.fr x) && decide (Vi.fr x ≤ u))) (Q (Value.int .i64 9)) (Sp (!decide (Vi.to x = -1)) (Sp (!(decide (Vi.fr x ≤ Vi.to x) && decide (Vi.to x ≤ u))) (Q (Value.int .i64 9)) (Sp (!(decide (1 ≤ Vi.en x) && decide (Vi.en x ≤ 4))) (Q (Value.int .i64 7)) (Sp (!decide (Vi.to x = -1) == decide (Vi.en x = 4)) (Q (Value.int .i64 2)) (Q (Value.int .i64 0))))) (Sp (!(decide (1 ≤ Vi.en x) && decide (Vi.en x ≤ 4))) (Q (Value.int .i64 7)) (Sp (!decide (Vi.to x = -1) == decide (Vi.en x = 4)) (Q (Value.int .i64 2)) (Q (Value.int .i64 0)))))))) := by kernel_rfl
theorem jVisR_nf (Q : Go.Value → Prop) (QA : KV) (x : Vi) (u : Int) (ts : List Go.Value) (vs : List Go.Value) : jVisR Q QA x u ts vs = (Sp (!(decide (0 ≤ Vi.g x) && decide (Vi.g x ≤ 19))) (Q (Value.int .i64 9)) (Sp (!(decide (0 ≤ Vi.u x) && decide (Vi.u x ≤ 4999))) (Q (Value.int .i64 9)) (Sp (!(decide (0 ≤ Vi.fr x) && decide (Vi.fr x ≤ u))) (Q (Value.int .i64 9)) (Sp (!decide (Vi.to x = -1)) (Sp (!(decide (Vi.fr x ≤ Vi.to x) && decide (Vi.to x ≤ u))) (Q (Value.int .i64 9)) (Sp (!(decide (1 ≤ Vi.en x) && decide (Vi.en x ≤ 4))) (Q (Value.int .i64 7)) (Sp (!decide (Vi.to x = -1) == decide (Vi.en x = 4)) (Q (Value.int .i64 2)) (Q (Value.int .i64 0))))) (Sp (!(decide (1 ≤ Vi.en x) && decide (Vi.en x ≤ 4))) (Q (Value.int .i64 7)) (Sp (!decide (Vi.to x = -1) == decide (Vi.en x = 4)) (Q (Value.int .i64 2)) (Q (Value.int .i64 0)))))))) := by kernel_rfl
def rngB (x : Ty) (u : Int) : Bool := isIn x.g 0 19 && (isIn x.u 0 4999 && (isIn x.a 0 1999 && (isIn x.y 0 9 && (isIn x.sn (-1) 49 && (isIn x.oc 1 4 && (isIn x.su 0 599 && (isIn x.sb (-1) 199 && (isIn x.fa 0 50 && isIn x.se 0 u))))))))
def ordF (u : Int) : List Int → Int → Bool
  | [], _ => true
  | t :: r, last => bif decide (t = -1) then ordF u r last else bif decide (t < last) || decide (u < t) then false else ordF u r t
def ordB (x : Ty) (u : Int) : Bool := ordF u [x.ca, x.be, x.le, x.ba] x.se
def visF (x : Vi) (u : Int) : Int := bif isIn x.g 0 19 && (isIn x.u 0 4999 && isIn x.fr 0 u) then (bif !decide (x.to = -1) && !isIn x.to x.fr u then 9 else bif isIn x.en 1 4 then (bif decide (x.to = -1) != decide (x.en = 4) then 2 else 0) else 7) else 9
def cutN (n t : Int) : Int := bif decide (t < n) then -1 else n
def cutT (t : Int) (x : Ty) : Ty := ⟨x.g, x.u, x.a, x.y, x.nm, x.sn, x.se, cutN x.ca t, cutN x.be t, cutN x.le t, cutN x.ba t, cutN x.en t, bif decide (t < x.en) then 4 else x.oc, bif decide (t < x.en) then 0 else x.su, bif decide (t < x.be) then -1 else x.sb, bif decide (t < x.en) then 0 else x.fa⟩
theorem rng_walk (x : Ty) (u : Int) : Walk env Proofs.Tryz.f56 [tyv x, .int .i64 u] (.bool (rngB x u)) := by
  refine sxFn_plain XU_ok (d := 1) (HFb _) ((jRng_nf _ _ x u).mpr ?_)
  repeat' (refine Sp.intro (fun h => ?_) (fun h => ?_))
  all_goals
    refine congrArg Value.bool ?_
    simp only [rngB, isIn, *, Bool.true_and, Bool.false_and, Bool.and_false]
theorem ord_walk (x : Ty) (u : Int) : Walk env Proofs.Tryz.f57 [tyv x, .int .i64 u] (.bool (ordB x u)) := by
  refine sxFn_plain XU_ok (d := 1) (HFb _) ((jOrd_nf _ _ x u).mpr ?_)
  repeat' (refine Sp.intro (fun h => ?_) (fun h => ?_))
  all_goals
    refine congrArg Value.bool ?_
    simp only [ordB, ordF, *, Bool.true_or, Bool.false_or, Bool.or_false, Bool.or_true, cond_true, cond_false]
theorem vis_walk (x : Vi) (u : Int) : Walk env Proofs.Tryz.f35 [viv x, .int .i64 u] (.int .i64 (visF x u)) := by
  refine sxFn_plain XU_ok (d := 1) (HFi _ _) ((jVis_nf _ _ x u).mpr ?_)
  repeat' (refine Sp.intro (fun h => ?_) (fun h => ?_))
  all_goals
    refine congrArg (Value.int .i64) ?_
    simp only [Bool.not_eq_true', Bool.not_eq_false'] at *
    simp_all only [visF, isIn, bne, Bool.true_and, Bool.false_and, Bool.and_false, Bool.and_self, Bool.not_true, Bool.not_false, cond_true, cond_false]
theorem visR_walk (x : Vi) (u : Int) (ts : List Ty) (vs : List Vi) : Walk env Proofs.Tryz.f37 [.agg ⟨[.int .i64 u, dat 16 (ts.map tyv), dat 7 (vs.map viv)]⟩, viv x] (.int .i64 (visF x u)) := by
  refine sxFn_plain XU_ok (d := 1) (HFi _ _) ((jVisR_nf _ _ x u _ _).mpr ?_)
  repeat' (refine Sp.intro (fun h => ?_) (fun h => ?_))
  all_goals
    refine congrArg (Value.int .i64) ?_
    simp only [Bool.not_eq_true', Bool.not_eq_false'] at *
    simp_all only [visF, isIn, bne, Bool.true_and, Bool.false_and, Bool.and_false, Bool.and_self, Bool.not_true, Bool.not_false, cond_true, cond_false]
end
end Go.T9
set_option maxRecDepth 1000000
set_option linter.unusedVariables false
set_option linter.unusedSimpArgs false
namespace Go.T9
open Go Go.AM
noncomputable section
def rngX : List Value → Option Value
  | [.agg ⟨[.int .i64 x0, .int .i64 x1, .int .i64 x2, .int .i64 x3, .string x4, .int .i64 x5, .int .i64 x6, .int .i64 x7, .int .i64 x8, .int .i64 x9, .int .i64 x10, .int .i64 x11, .int .i64 x12, .int .i64 x13, .int .i64 x14, .int .i64 x15]⟩, .int .i64 u] => some (.bool (rngB ⟨x0, x1, x2, x3, x4, x5, x6, x7, x8, x9, x10, x11, x12, x13, x14, x15⟩ u))
  | _ => none
theorem rng_tab : ∀ args A p v A', pureR (fun _ => none) rngX args A = some (p, v, A') → PH p → CallAt env 56 args A v A' := walk_tab env_ok env_gl (fn := Proofs.Tryz.f56) rfl fun args v h _ => by
  unfold rngX at h
  split at h
  · simp only [Option.some.injEq] at h
    subst h
    exact ⟨HF.cons (HF_ty ⟨_, _, _, _, _, _, _, _, _, _, _, _, _, _, _, _⟩) (HF.cons (HFi _ _) HF.nil), rng_walk ⟨_, _, _, _, _, _, _, _, _, _, _, _, _, _, _, _⟩ _⟩
  · cases h
def ordX : List Value → Option Value
  | [.agg ⟨[.int .i64 x0, .int .i64 x1, .int .i64 x2, .int .i64 x3, .string x4, .int .i64 x5, .int .i64 x6, .int .i64 x7, .int .i64 x8, .int .i64 x9, .int .i64 x10, .int .i64 x11, .int .i64 x12, .int .i64 x13, .int .i64 x14, .int .i64 x15]⟩, .int .i64 u] => some (.bool (ordB ⟨x0, x1, x2, x3, x4, x5, x6, x7, x8, x9, x10, x11, x12, x13, x14, x15⟩ u))
  | _ => none
theorem ord_tab : ∀ args A p v A', pureR (fun _ => none) ordX args A = some (p, v, A') → PH p → CallAt env 57 args A v A' := walk_tab env_ok env_gl (fn := Proofs.Tryz.f57) rfl fun args v h _ => by
  unfold ordX at h
  split at h
  · simp only [Option.some.injEq] at h
    subst h
    exact ⟨HF.cons (HF_ty ⟨_, _, _, _, _, _, _, _, _, _, _, _, _, _, _, _⟩) (HF.cons (HFi _ _) HF.nil), ord_walk ⟨_, _, _, _, _, _, _, _, _, _, _, _, _, _, _, _⟩ _⟩
  · cases h
def visX : List Value → Option Value
  | [.agg ⟨[.int .i64 x0, .int .i64 x1, .int .i64 x2, .int .i64 x3, .int .i64 x4, .int .i64 x5, .string x6]⟩, .int .i64 u] => some (.int .i64 (visF ⟨x0, x1, x2, x3, x4, x5, x6⟩ u))
  | _ => none
theorem vis_tab : ∀ args A p v A', pureR (fun _ => none) visX args A = some (p, v, A') → PH p → CallAt env 35 args A v A' := walk_tab env_ok env_gl (fn := Proofs.Tryz.f35) rfl fun args v h _ => by
  unfold visX at h
  split at h
  · simp only [Option.some.injEq] at h
    subst h
    exact ⟨HF.cons (HF_vi ⟨_, _, _, _, _, _, _⟩) (HF.cons (HFi _ _) HF.nil), vis_walk ⟨_, _, _, _, _, _, _⟩ _⟩
  · cases h
def cutTX : List Value → Option Value
  | [.agg ⟨[.int .i64 x0, .int .i64 x1, .int .i64 x2, .int .i64 x3, .string x4, .int .i64 x5, .int .i64 x6, .int .i64 x7, .int .i64 x8, .int .i64 x9, .int .i64 x10, .int .i64 x11, .int .i64 x12, .int .i64 x13, .int .i64 x14, .int .i64 x15]⟩, .int .i64 u] => some (tyv (cutT u ⟨x0, x1, x2, x3, x4, x5, x6, x7, x8, x9, x10, x11, x12, x13, x14, x15⟩))
  | _ => none
def cutNX : List Value → Option Value
  | [.int .i64 n, .int .i64 u] => some (.int .i64 (cutN n u))
  | _ => none
def frmB (x : Ty) : Bool := (!decide (x.be = -1) && decide (x.ca = -1)) || ((decide (x.en = -1) != decide (x.oc = 4)) || ((decide (x.oc = 1) && !decide (x.en = x.ba)) || (decide (x.oc = 3) && !decide (x.en = x.se))))
def endB (x : Ty) (u : Int) : Bool := !decide (x.en = -1) && !isIn x.en x.se u
def chkT (x : Ty) (u : Int) : Int := bif rngB x u then (bif ordB x u then (bif frmB x then 2 else bif endB x u then 9 else 0) else 10) else 9
def tabT : Tab := [(56, pureR (fun _ => none) rngX), (57, pureR (fun _ => none) ordX), (30, pureR (fun _ => none) insideX)]
theorem tabT_ok : TabOk env tabT := .cons rng_tab (.cons ord_tab (.cons (con_tab inside_con) .nil))
def XT : SX := ⟨env, tabT, noEl, fun _ => .unroll 0⟩
theorem XT_ok : XT.Ok := ⟨env_ok, env_sym, env_gl, tabT_ok⟩
def jChk (Q : Value → Prop) (QA : KV) (x : Ty) (u : Int) : Prop := sxFn XT 1 Proofs.Tryz.f34 [tyv x, .int .i64 u] (leafK Q QA)
end
end Go.T9
set_option maxRecDepth 1000000
set_option linter.unusedVariables false
set_option linter.unusedSimpArgs false
namespace Go.T9
open Go Go.AM
noncomputable section
theorem jChk_nf (Q : Go.Value → Prop) (QA : KV) (x : Ty) (u : Int) : jChk Q QA x u = (Sp (!rngB x u) (Q (Value.int .i64 9)) (Sp (!ordB x u) (Q (Value.int .i64 10)) (Sp (!decide (Ty.be x = -1)) (Sp (decide (Ty.ca x = -1)) (Q (Value.int .i64 2)) (Sp (!decide (Ty.en x = -1) == decide (Ty.oc x = 4)) (Q (Value.int .i64 2)) (Sp (decide (Ty.oc x = 1)) (Sp (!decide (Ty.en x = Ty.ba x)) (Q (Value.int .i64 2)) (Sp (decide (Ty.oc x = 3)) (Sp (!decide (Ty.en x = Ty.se x)) (Q (Value.int .i64 2)) (Sp (!decide (Ty.en x = -1)) (Sp (!(decide (Ty.se x ≤ Ty.en x) && decide (Ty.en x ≤ u))) (Q (Value.int .i64 9)) (Q (Value.int .i64 0))) (Q (Value.int .i64 0)))) (Sp (!decide (Ty.en x = -1)) (Sp (!(decide (Ty.se x ≤ Ty.en x) && decide (Ty.en x ≤ u))) (Q (Value.int .i64 9)) (Q (Value.int .i64 0))) (Q (Value.int .i64 0))))) (Sp (decide (Ty.oc x = 3)) (Sp (!decide (Ty.en x = Ty.se x)) (Q (Value.int .i64 2)) (Sp (!decide (Ty.en x = -1)) (Sp (!(decide (Ty.se x ≤ Ty.en x) && decide (Ty.en x ≤ u))) (Q (Value.int .i64 9)) (Q (Value.int .i64 0))) (Q (Value.int .i64 0)))) (Sp (!decide (Ty.en x = -1)) (Sp (!(decide (Ty.se x ≤ Ty.en x) && decide (Ty.en x ≤ u))) (Q (Value.int .i64 9)) (Q (Value.int .i64 0))) (Q (Value.int .i64 0))))))) (Sp (!decide (Ty.en x = -1) == decide (Ty.oc x = 4)) (Q (Value.int .i64 2)) (Sp (decide (Ty.oc x = 1)) (Sp (!decide (Ty.en x = Ty.ba x)) (Q (Value.int .i64 2)) (Sp (decide (Ty.oc x = 3)) (Sp (!decide (Ty.en x = Ty.se x)) (Q (Value.int .i64 2)) (Sp (!decide (Ty.en x = -1)) (Sp (!(decide (Ty.se x ≤ Ty.en x) && decide (Ty.en x ≤ u))) (Q (Value.int .i64 9)) (Q (Value.int .i64 0))) (Q (Value.int .i64 0)))) (Sp (!decide (Ty.en x = -1)) (Sp (!(decide (Ty.se x ≤ Ty.en x) && decide (Ty.en x ≤ u))) (Q (Value.int .i64 9)) (Q (Value.int .i64 0))) (Q (Value.int .i64 0))))) (Sp (decide (Ty.oc x = 3)) (Sp (!decide (Ty.en x = Ty.se x)) (Q (Value.int .i64 2)) (Sp (!decide (Ty.en x = -1)) (Sp (!(decide (Ty.se x ≤ Ty.en x) && decide (Ty.en x ≤ u))) (Q (Value.int .i64 9)) (Q (Value.int .i64 0))) (Q (Value.int .i64 0)))) (Sp (!decide (Ty.en x = -1)) (Sp (!(decide (Ty.se x ≤ Ty.en x) && decide (Ty.en x ≤ u))) (Q (Value.int .i64 9)) (Q (Value.int .i64 0))) (Q (Value.int .i64 0))))))))) := by kernel_rfl
theorem chk_walk (x : Ty) (u : Int) : Walk env Proofs.Tryz.f34 [tyv x, .int .i64 u] (.int .i64 (chkT x u)) := by
  refine sxFn_plain XT_ok (d := 1) (HFi _ _) ((jChk_nf _ _ x u).mpr ?_)
  repeat' (refine Sp.intro (fun h => ?_) (fun h => ?_))
  all_goals
    refine congrArg (Value.int .i64) ?_
    simp only [Bool.not_eq_true', Bool.not_eq_false'] at *
    simp_all only [chkT, frmB, endB, isIn, bne, Bool.true_and, Bool.false_and, Bool.and_false, Bool.and_true, Bool.and_self, Bool.true_or, Bool.false_or, Bool.or_false, Bool.or_true, Bool.not_true, Bool.not_false, cond_true, cond_false]
def chkX : List Value → Option Value
  | [.agg ⟨[.int .i64 x0, .int .i64 x1, .int .i64 x2, .int .i64 x3, .string x4, .int .i64 x5, .int .i64 x6, .int .i64 x7, .int .i64 x8, .int .i64 x9, .int .i64 x10, .int .i64 x11, .int .i64 x12, .int .i64 x13, .int .i64 x14, .int .i64 x15]⟩, .int .i64 u] => some (.int .i64 (chkT ⟨x0, x1, x2, x3, x4, x5, x6, x7, x8, x9, x10, x11, x12, x13, x14, x15⟩ u))
  | _ => none
theorem chk_tab : ∀ args A p v A', pureR (fun _ => none) chkX args A = some (p, v, A') → PH p → CallAt env 34 args A v A' := walk_tab env_ok env_gl (fn := Proofs.Tryz.f34) rfl fun args v h _ => by
  unfold chkX at h
  split at h
  · simp only [Option.some.injEq] at h
    subst h
    exact ⟨HF.cons (HF_ty ⟨_, _, _, _, _, _, _, _, _, _, _, _, _, _, _, _⟩) (HF.cons (HFi _ _) HF.nil), chk_walk ⟨_, _, _, _, _, _, _, _, _, _, _, _, _, _, _, _⟩ _⟩
  · cases h
def tyAt (els : List Value) (i : Int) : Ty := match nth els i.toNat with
  | some (.agg ⟨[.int .i64 x0, .int .i64 x1, .int .i64 x2, .int .i64 x3, .string x4, .int .i64 x5, .int .i64 x6, .int .i64 x7, .int .i64 x8, .int .i64 x9, .int .i64 x10, .int .i64 x11, .int .i64 x12, .int .i64 x13, .int .i64 x14, .int .i64 x15]⟩) => ⟨x0, x1, x2, x3, x4, x5, x6, x7, x8, x9, x10, x11, x12, x13, x14, x15⟩
  | _ => ⟨0, 0, 0, 0, ByteArray.empty, 0, 0, 0, 0, 0, 0, 0, 0, 0, 0, 0⟩
def viAt (els : List Value) (i : Int) : Vi := match nth els i.toNat with
  | some (.agg ⟨[.int .i64 x0, .int .i64 x1, .int .i64 x2, .int .i64 x3, .int .i64 x4, .int .i64 x5, .string x6]⟩) => ⟨x0, x1, x2, x3, x4, x5, x6⟩
  | _ => ⟨0, 0, 0, 0, 0, 0, ByteArray.empty⟩
def elL : El := .of fun sz _ els i => bif Nat.beq sz 16 then some (tyv (tyAt els i)) else bif Nat.beq sz 7 then some (viv (viAt els i)) else none
def logv (u : Int) (ts vs : List Value) : Value := .agg ⟨[.int .i64 u, dat 16 ts, dat 7 vs]⟩
def tabC : Tab := [(34, pureR (fun _ => none) chkX), (35, pureR (fun _ => none) visX), (30, pureR (fun _ => none) insideX)]
theorem tabC_ok : TabOk env tabC := .cons chk_tab (.cons vis_tab (.cons (con_tab inside_con) .nil))
def XC : SX := ⟨env, tabC, elL, fun k => bif Nat.beq k 6 then .auto [] [1, 26, 27, 28] else .auto [] [1, 56, 57, 58]⟩
theorem XC_ok : XC.Ok := ⟨env_ok, env_sym, env_gl, tabC_ok⟩
def hL (u : Int) (ts vs : List Value) : AH := ⟨(.node .leaf (some (.cells [.int .i64 u, dat 16 ts, dat 7 vs] 25)) .leaf), 1⟩
def frL1 (ts : List Value) (i : Nat) : T Value := (.node (.node (.node .leaf none (.node .leaf none (.node .leaf (some (.int .i64 ts.length)) .leaf))) (some (.pointer (some ⟨0, 0, none⟩))) .leaf) none (.node (.node .leaf none (.node .leaf none (.node .leaf (some (.int .i64 i)) .leaf))) none (.node (.node .leaf none (.node .leaf (some (dat 16 ts)) .leaf)) none .leaf)))
def frL2 (vs : List Value) (i : Nat) : T Value := (.node (.node .leaf (some (.pointer (some ⟨0, 0, none⟩))) (.node (.node .leaf none (.node .leaf none (.node .leaf (some (.int .i64 vs.length)) .leaf))) none .leaf)) none (.node (.node (.node .leaf none (.node .leaf none (.node .leaf (some (dat 7 vs)) .leaf))) none .leaf) none (.node (.node .leaf none (.node .leaf none (.node .leaf (some (.int .i64 i)) .leaf))) none .leaf)))
def jCL (Q : Value → Prop) (QA : KV) (u : Int) (ts vs : List Value) : Prop := sxFn XC 1 Proofs.Tryz.f9 [logv u ts vs] (leafK Q QA)
def jCL1 (Q : Value → Prop) (QA : KV) (again : KF) (u : Int) (ts vs : List Value) (i : Nat) : Prop := sxStepA XC 1 Proofs.Tryz.f9 [1, 1, 0, 1, 0] (leafK Q QA) [] [1, 26, 27, 28] again (frL1 ts i) (hL u ts vs)
def jCL2 (Q : Value → Prop) (QA : KV) (again : KF) (u : Int) (ts vs : List Value) (i : Nat) : Prop := sxStepA XC 1 Proofs.Tryz.f9 [1, 1, 1, 0, 1, 0] (leafK Q QA) [] [1, 56, 57, 58] again (frL2 vs i) (hL u ts vs)
end
end Go.T9
set_option maxRecDepth 1000000
set_option linter.unusedVariables false
set_option linter.unusedSimpArgs false
namespace Go.T9
open Go Go.AM
noncomputable section
theorem jCL_nf (Q : Go.Value → Prop) (QA : KV) (u : Int) (ts : List Go.Value) (vs : List Go.Value) : jCL Q QA u ts vs = (Sp (!(decide (0 ≤ u) && decide (u ≤ 1000000000000))) (Q (Value.int .i64 9)) (Sp (decide (20000 < (↑(List.length ts) : Int))) (Q (Value.int .i64 3)) (Sp (decide (100000 < (↑(List.length vs) : Int))) (Q (Value.int .i64 3)) (HF (Value.func (Go.Fn.yield 16) (Array.mk ts) (Array.mk [])) ∧ HF (Value.func (Go.Fn.yield 16) (Array.mk ts) (Array.mk [])) ∧ HF (Value.func (Go.Fn.yield 7) (Array.mk vs) (Array.mk [])) ∧ LAt XC 1 (Go.Func.ntmps Go.Proofs.Tryz.f9) (bodyOf Go.Proofs.Tryz.f9) [1, 1, 0, 1, 0] (finK (SX.E XC) (Array.toList (Go.Func.results Go.Proofs.Tryz.f9)) (leafK Q QA)) (T.node (T.node (T.node T.leaf none (T.node T.leaf none (T.node T.leaf (some (Value.int .i64 (↑(List.length ts) : Int))) T.leaf))) (some (Value.pointer (some (Go.Addr.mk 0 0 none)))) T.leaf) none (T.node (T.node T.leaf none (T.node T.leaf none (T.node T.leaf (some (Value.int .i64 0)) T.leaf))) none (T.node (T.node T.leaf none (T.node T.leaf (some (Value.func (Go.Fn.yield 16) (Array.mk ts) (Array.mk []))) T.leaf)) none T.leaf))) (AH.mk (T.node T.leaf (some (AObj.cells [Value.int .i64 u, Value.func (Go.Fn.yield 16) (Array.mk ts) (Array.mk []), Value.func (Go.Fn.yield 7) (Array.mk vs) (Array.mk [])] 25)) T.leaf) 1))))) := by kernel_rfl
theorem jCL1_nf (Q : Go.Value → Prop) (QA : KV) (again : KF) (u : Int) (ts : List Go.Value) (vs : List Go.Value) (i : Nat) : jCL1 Q QA again u ts vs i = (Sp (decide ((↑i : Int) < (↑(List.length ts) : Int))) ((0 ≤ (↑i : Int) ∧ (↑i : Int) < (↑(List.length ts) : Int)) ∧ nth ts (Int.toNat (↑(Int.toNat (↑i : Int)) : Int)) = some (Value.agg (Array.mk [Value.int .i64 (Ty.g (tyAt ts (↑(Int.toNat (↑i : Int)) : Int))), Value.int .i64 (Ty.u (tyAt ts (↑(Int.toNat (↑i : Int)) : Int))), Value.int .i64 (Ty.a (tyAt ts (↑(Int.toNat (↑i : Int)) : Int))), Value.int .i64 (Ty.y (tyAt ts (↑(Int.toNat (↑i : Int)) : Int))), Value.string (Ty.nm (tyAt ts (↑(Int.toNat (↑i : Int)) : Int))), Value.int .i64 (Ty.sn (tyAt ts (↑(Int.toNat (↑i : Int)) : Int))), Value.int .i64 (Ty.se (tyAt ts (↑(Int.toNat (↑i : Int)) : Int))), Value.int .i64 (Ty.ca (tyAt ts (↑(Int.toNat (↑i : Int)) : Int))), Value.int .i64 (Ty.be (tyAt ts (↑(Int.toNat (↑i : Int)) : Int))), Value.int .i64 (Ty.le (tyAt ts (↑(Int.toNat (↑i : Int)) : Int))), Value.int .i64 (Ty.ba (tyAt ts (↑(Int.toNat (↑i : Int)) : Int))), Value.int .i64 (Ty.en (tyAt ts (↑(Int.toNat (↑i : Int)) : Int))), Value.int .i64 (Ty.oc (tyAt ts (↑(Int.toNat (↑i : Int)) : Int))), Value.int .i64 (Ty.su (tyAt ts (↑(Int.toNat (↑i : Int)) : Int))), Value.int .i64 (Ty.sb (tyAt ts (↑(Int.toNat (↑i : Int)) : Int))), Value.int .i64 (Ty.fa (tyAt ts (↑(Int.toNat (↑i : Int)) : Int)))])) ∧ Sp (!decide (chkT (tyAt ts (↑(Int.toNat (↑i : Int)) : Int)) u = 0)) (Q (Value.int .i64 (chkT (tyAt ts (↑(Int.toNat (↑i : Int)) : Int)) u))) (Sp (decide (0 < (↑i : Int))) ((0 ≤ IntKind.wrap .i64 ((↑i : Int) - 1) ∧ IntKind.wrap .i64 ((↑i : Int) - 1) < (↑(List.length ts) : Int)) ∧ nth ts (Int.toNat (↑(Int.toNat (IntKind.wrap .i64 ((↑i : Int) - 1))) : Int)) = some (Value.agg (Array.mk [Value.int .i64 (Ty.g (tyAt ts (↑(Int.toNat (IntKind.wrap .i64 ((↑i : Int) - 1))) : Int))), Value.int .i64 (Ty.u (tyAt ts (↑(Int.toNat (IntKind.wrap .i64 ((↑i : Int) - 1))) : Int))), Value.int .i64 (Ty.a (tyAt ts (↑(Int.toNat (IntKind.wrap .i64 ((↑i : Int) - 1))) : Int))), Value.int .i64 (Ty.y (tyAt ts (↑(Int.toNat (IntKind.wrap .i64 ((↑i : Int) - 1))) : Int))), Value.string (Ty.nm (tyAt ts (↑(Int.toNat (IntKind.wrap .i64 ((↑i : Int) - 1))) : Int))), Value.int .i64 (Ty.sn (tyAt ts (↑(Int.toNat (IntKind.wrap .i64 ((↑i : Int) - 1))) : Int))), Value.int .i64 (Ty.se (tyAt ts (↑(Int.toNat (IntKind.wrap .i64 ((↑i : Int) - 1))) : Int))), Value.int .i64 (Ty.ca (tyAt ts (↑(Int.toNat (IntKind.wrap .i64 ((↑i : Int) - 1))) : Int))), Value.int .i64 (Ty.be (tyAt ts (↑(Int.toNat (IntKind.wrap .i64 ((↑i : Int) - 1))) : Int))), Value.int .i64 (Ty.le (tyAt ts (↑(Int.toNat (IntKind.wrap .i64 ((↑i : Int) - 1))) : Int))), Value.int .i64 (Ty.ba (tyAt ts (↑(Int.toNat (IntKind.wrap .i64 ((↑i : Int) - 1))) : Int))), Value.int .i64 (Ty.en (tyAt ts (↑(Int.toNat (IntKind.wrap .i64 ((↑i : Int) - 1))) : Int))), Value.int .i64 (Ty.oc (tyAt ts (↑(Int.toNat (IntKind.wrap .i64 ((↑i : Int) - 1))) : Int))), Value.int .i64 (Ty.su (tyAt ts (↑(Int.toNat (IntKind.wrap .i64 ((↑i : Int) - 1))) : Int))), Value.int .i64 (Ty.sb (tyAt ts (↑(Int.toNat (IntKind.wrap .i64 ((↑i : Int) - 1))) : Int))), Value.int .i64 (Ty.fa (tyAt ts (↑(Int.toNat (IntKind.wrap .i64 ((↑i : Int) - 1))) : Int)))])) ∧ Sp (decide (Ty.se (tyAt ts (↑(Int.toNat (↑i : Int)) : Int)) < Ty.se (tyAt ts (↑(Int.toNat (IntKind.wrap .i64 ((↑i : Int) - 1))) : Int)))) (Q (Value.int .i64 10)) (HF (Value.func (Go.Fn.yield 16) (Array.mk ts) (Array.mk [])) ∧ HF (Value.func (Go.Fn.yield 16) (Array.mk ts) (Array.mk [])) ∧ HF (Value.func (Go.Fn.yield 7) (Array.mk vs) (Array.mk [])) ∧ again (T.node (T.node (T.node T.leaf none (T.node T.leaf none (T.node T.leaf (some (Value.int .i64 (↑(List.length ts) : Int))) T.leaf))) (some (Value.pointer (some (Go.Addr.mk 0 0 none)))) T.leaf) none (T.node (T.node T.leaf none (T.node T.leaf none (T.node T.leaf (some (Value.int .i64 (IntKind.wrap .i64 ((↑i : Int) + 1)))) T.leaf))) none (T.node (T.node T.leaf none (T.node T.leaf (some (Value.func (Go.Fn.yield 16) (Array.mk ts) (Array.mk []))) T.leaf)) none T.leaf))) (AH.mk (T.node T.leaf (some (AObj.cells [Value.int .i64 u, Value.func (Go.Fn.yield 16) (Array.mk ts) (Array.mk []), Value.func (Go.Fn.yield 7) (Array.mk vs) (Array.mk [])] 25)) T.leaf) 1))) (HF (Value.func (Go.Fn.yield 16) (Array.mk ts) (Array.mk [])) ∧ HF (Value.func (Go.Fn.yield 16) (Array.mk ts) (Array.mk [])) ∧ HF (Value.func (Go.Fn.yield 7) (Array.mk vs) (Array.mk [])) ∧ again (T.node (T.node (T.node T.leaf none (T.node T.leaf none (T.node T.leaf (some (Value.int .i64 (↑(List.length ts) : Int))) T.leaf))) (some (Value.pointer (some (Go.Addr.mk 0 0 none)))) T.leaf) none (T.node (T.node T.leaf none (T.node T.leaf none (T.node T.leaf (some (Value.int .i64 (IntKind.wrap .i64 ((↑i : Int) + 1)))) T.leaf))) none (T.node (T.node T.leaf none (T.node T.leaf (some (Value.func (Go.Fn.yield 16) (Array.mk ts) (Array.mk []))) T.leaf)) none T.leaf))) (AH.mk (T.node T.leaf (some (AObj.cells [Value.int .i64 u, Value.func (Go.Fn.yield 16) (Array.mk ts) (Array.mk []), Value.func (Go.Fn.yield 7) (Array.mk vs) (Array.mk [])] 25)) T.leaf) 1)))) (HF (Value.func (Go.Fn.yield 7) (Array.mk vs) (Array.mk [])) ∧ HF (Value.func (Go.Fn.yield 16) (Array.mk ts) (Array.mk [])) ∧ HF (Value.func (Go.Fn.yield 7) (Array.mk vs) (Array.mk [])) ∧ LAt XC 1 (Go.Func.ntmps Go.Proofs.Tryz.f9) (bodyOf Go.Proofs.Tryz.f9) [1, 1, 1, 0, 1, 0] (finK (SX.E XC) (Array.toList (Go.Func.results Go.Proofs.Tryz.f9)) (leafK Q QA)) (T.node (T.node T.leaf (some (Value.pointer (some (Go.Addr.mk 0 0 none)))) (T.node (T.node T.leaf none (T.node T.leaf none (T.node T.leaf (some (Value.int .i64 (↑(List.length vs) : Int))) T.leaf))) none T.leaf)) none (T.node (T.node (T.node T.leaf none (T.node T.leaf none (T.node T.leaf (some (Value.func (Go.Fn.yield 7) (Array.mk vs) (Array.mk []))) T.leaf))) none T.leaf) none (T.node (T.node T.leaf none (T.node T.leaf none (T.node T.leaf (some (Value.int .i64 0)) T.leaf))) none T.leaf))) (AH.mk (T.node T.leaf (some (AObj.cells [Value.int .i64 u, Value.func (Go.Fn.yield 16) (Array.mk ts) (Array.mk []), Value.func (Go.Fn.yield 7) (Array.mk vs) (Array.mk [])] 25)) T.leaf) 1))) := by kernel_rfl
theorem jCL2_nf (Q : Go.Value → Prop) (QA : KV) (again : KF) (u : Int) (ts : List Go.Value) (vs : List Go.Value) (i : Nat) : jCL2 Q QA again u ts vs i = (Sp (decide ((↑i : Int) < (↑(List.length vs) : Int))) ((0 ≤ (↑i : Int) ∧ (↑i : Int) < (↑(List.length vs) : Int)) ∧ nth vs (Int.toNat (↑(Int.toNat (↑i : Int)) : Int)) = some (Value.agg (Array.mk [Value.int .i64 (Vi.g (viAt vs (↑(Int.toNat (↑i : Int)) : Int))), Value.int .i64 (Vi.u (viAt vs (↑(Int.toNat (↑i : Int)) : Int))), Value.int .i64 (Vi.fr (viAt vs (↑(Int.toNat (↑i : Int)) : Int))), Value.int .i64 (Vi.to (viAt vs (↑(Int.toNat (↑i : Int)) : Int))), Value.int .i64 (Vi.en (viAt vs (↑(Int.toNat (↑i : Int)) : Int))), Value.int .i64 (Vi.er (viAt vs (↑(Int.toNat (↑i : Int)) : Int))), Value.string (Vi.tx (viAt vs (↑(Int.toNat (↑i : Int)) : Int)))])) ∧ Sp (!decide (visF (viAt vs (↑(Int.toNat (↑i : Int)) : Int)) u = 0)) (Q (Value.int .i64 (visF (viAt vs (↑(Int.toNat (↑i : Int)) : Int)) u))) (HF (Value.func (Go.Fn.yield 7) (Array.mk vs) (Array.mk [])) ∧ HF (Value.func (Go.Fn.yield 16) (Array.mk ts) (Array.mk [])) ∧ HF (Value.func (Go.Fn.yield 7) (Array.mk vs) (Array.mk [])) ∧ again (T.node (T.node T.leaf (some (Value.pointer (some (Go.Addr.mk 0 0 none)))) (T.node (T.node T.leaf none (T.node T.leaf none (T.node T.leaf (some (Value.int .i64 (↑(List.length vs) : Int))) T.leaf))) none T.leaf)) none (T.node (T.node (T.node T.leaf none (T.node T.leaf none (T.node T.leaf (some (Value.func (Go.Fn.yield 7) (Array.mk vs) (Array.mk []))) T.leaf))) none T.leaf) none (T.node (T.node T.leaf none (T.node T.leaf none (T.node T.leaf (some (Value.int .i64 (IntKind.wrap .i64 ((↑i : Int) + 1)))) T.leaf))) none T.leaf))) (AH.mk (T.node T.leaf (some (AObj.cells [Value.int .i64 u, Value.func (Go.Fn.yield 16) (Array.mk ts) (Array.mk []), Value.func (Go.Fn.yield 7) (Array.mk vs) (Array.mk [])] 25)) T.leaf) 1))) (Q (Value.int .i64 0))) := by kernel_rfl
theorem ty_nth {l : List Ty} {i : Nat} (h : i < l.length) : nth (l.map tyv) i = some (tyv l[i]) := nth_map (by simp [h])
theorem ty_at {l : List Ty} {i : Nat} (h : i < l.length) : tyAt (l.map tyv) (i : Int) = l[i] := by
  simp only [tyAt, Int.toNat_natCast, ty_nth h]
  rfl
theorem ty_c {l : List Ty} {i : Nat} (h : i < l.length) : nth (l.map tyv) (Int.toNat ((Int.toNat (i : Int) : Nat) : Int)) = some (tyv (tyAt (l.map tyv) ((Int.toNat (i : Int) : Nat) : Int))) := by
  simp only [Int.toNat_natCast]
  rw [ty_nth h, ty_at h]
theorem ty_b {l : List Ty} {i : Nat} (h : i < l.length) : (0 : Int) ≤ (i : Int) ∧ (i : Int) < ((l.map tyv).length : Int) := ⟨by omega, by simpa using h⟩
theorem vi_nth {l : List Vi} {i : Nat} (h : i < l.length) : nth (l.map viv) i = some (viv l[i]) := nth_map (by simp [h])
theorem vi_at {l : List Vi} {i : Nat} (h : i < l.length) : viAt (l.map viv) (i : Int) = l[i] := by
  simp only [viAt, Int.toNat_natCast, vi_nth h]
  rfl
theorem vi_c {l : List Vi} {i : Nat} (h : i < l.length) : nth (l.map viv) (Int.toNat ((Int.toNat (i : Int) : Nat) : Int)) = some (viv (viAt (l.map viv) ((Int.toNat (i : Int) : Nat) : Int))) := by
  simp only [Int.toNat_natCast]
  rw [vi_nth h, vi_at h]
theorem vi_b {l : List Vi} {i : Nat} (h : i < l.length) : (0 : Int) ≤ (i : Int) ∧ (i : Int) < ((l.map viv).length : Int) := ⟨by omega, by simpa using h⟩
theorem pred_in {i : Nat} (h0 : 0 < i) (h1 : i < 9223372036854775807) : IntKind.i64.wrap ((i : Int) - 1) = ((i - 1 : Nat) : Int) := by
  rw [i64_in (by omega) (by omega)]; omega
def lessP (pr : Option Int) (s : Int) : Bool := match pr with
  | some q => decide (s < q)
  | none => false
def chkTs (u : Int) : Option Int → List Ty → Int
  | _, [] => 0
  | pr, x :: r => bif decide (chkT x u = 0) then (bif lessP pr x.se then 10 else chkTs u (some x.se) r) else chkT x u
def chkVs (u : Int) : List Vi → Int
  | [] => 0
  | v :: r => bif decide (visF v u = 0) then chkVs u r else visF v u
def prevS (ts : List Ty) : Nat → Option Int
  | 0 => none
  | i + 1 => (ts[i]?).map (·.se)
def logE (u : Int) (ts : List Ty) (vs : List Vi) : Int := bif isIn u 0 1000000000000 then (bif decide (20000 < ts.length) || decide (100000 < vs.length) then 3 else bif decide (chkTs u none ts = 0) then chkVs u vs else chkTs u none ts) else 9
theorem chkTs_step {u : Int} {ts : List Ty} {i : Nat} (h : i < ts.length) : chkTs u (prevS ts i) (ts.drop i) = bif decide (chkT ts[i] u = 0) then (bif lessP (prevS ts i) ts[i].se then 10 else chkTs u (prevS ts (i + 1)) (ts.drop (i + 1))) else chkT ts[i] u := by
  rw [List.drop_eq_getElem_cons h]
  simp only [chkTs, prevS, List.getElem?_eq_getElem h, Option.map_some]
theorem chkVs_step {u : Int} {vs : List Vi} {i : Nat} (h : i < vs.length) : chkVs u (vs.drop i) = bif decide (visF vs[i] u = 0) then chkVs u (vs.drop (i + 1)) else visF vs[i] u := by
  rw [List.drop_eq_getElem_cons h]
  rfl
theorem CL_loop2 (Q : Value → Prop) (QA : KV) (u : Int) (ts : List Ty) (vs : List Vi) (hv : vs.length ≤ 100000) (hQ : Q (.int .i64 (chkVs u vs))) :
    LAt XC 1 (Func.ntmps Proofs.Tryz.f9) (bodyOf Proofs.Tryz.f9) [1, 1, 1, 0, 1, 0] (finK XC.E (Proofs.Tryz.f9.results).toList (leafK Q QA)) (frL2 (vs.map viv) 0) (hL u (ts.map tyv) (vs.map viv)) := by
  refine LAt.stepA XC_ok [] [1, 56, 57, 58] (by kernel_rfl) (fun k F A => ∃ i : Nat, F = frL2 (vs.map viv) i ∧ A = hL u (ts.map tyv) (vs.map viv) ∧ i + k = vs.length ∧ chkVs u (vs.drop i) = chkVs u vs) ?_ (k := vs.length) ⟨0, rfl, rfl, by simp, by simp⟩
  rintro k F A ⟨i, rfl, rfl, hk, he⟩
  refine (jCL2_nf _ _ _ u _ _ i).mpr ?_
  refine Sp.intro (fun h => ?_) (fun h => ?_)
  · have hlt : i < vs.length := by simpa using h
    have hat := vi_at hlt
    rw [chkVs_step hlt] at he
    refine ⟨vi_b hlt, vi_c hlt, ?_⟩
    simp only [Int.toNat_natCast, hat]
    refine Sp.intro (fun h => ?_) (fun h => ⟨HF_vis vs, HF_tys ts, HF_vis vs, k - 1, by omega, i + 1, ?_, rfl, by omega, ?_⟩)
    · rw [Bool.not_eq_true'] at h
      rw [h] at he
      rw [← he] at hQ
      exact hQ
    · rw [idx_succ (by omega)]
      rfl
    · rw [Bool.not_eq_false'] at h
      rw [h] at he
      exact he
  · have : vs.drop i = [] := List.drop_eq_nil_of_le (by simp at h; omega)
    rw [this] at he
    rw [← he] at hQ
    exact hQ
theorem CL_loop1 (Q : Value → Prop) (QA : KV) (u : Int) (ts : List Ty) (vs : List Vi) (ht : ts.length ≤ 20000) (hv : vs.length ≤ 100000) (hQ : Q (.int .i64 (bif decide (chkTs u none ts = 0) then chkVs u vs else chkTs u none ts))) :
    LAt XC 1 (Func.ntmps Proofs.Tryz.f9) (bodyOf Proofs.Tryz.f9) [1, 1, 0, 1, 0] (finK XC.E (Proofs.Tryz.f9.results).toList (leafK Q QA)) (frL1 (ts.map tyv) 0) (hL u (ts.map tyv) (vs.map viv)) := by
  refine LAt.stepA XC_ok [] [1, 26, 27, 28] (by kernel_rfl) (fun k F A => ∃ i : Nat, F = frL1 (ts.map tyv) i ∧ A = hL u (ts.map tyv) (vs.map viv) ∧ i + k = ts.length ∧ chkTs u (prevS ts i) (ts.drop i) = chkTs u none ts) ?_ (k := ts.length) ⟨0, rfl, rfl, by simp, by simp [prevS]⟩
  rintro k F A ⟨i, rfl, rfl, hk, he⟩
  refine (jCL1_nf _ _ _ u _ _ i).mpr ?_
  refine Sp.intro (fun h => ?_) (fun h => ?_)
  · have hlt : i < ts.length := by simpa using h
    have hat := ty_at hlt
    rw [chkTs_step hlt] at he
    refine ⟨ty_b hlt, ty_c hlt, ?_⟩
    simp only [Int.toNat_natCast, hat]
    refine Sp.intro (fun h => ?_) (fun h => ?_)
    · rw [Bool.not_eq_true'] at h
      rw [h] at he
      simp only [cond_false] at he
      have e0 : decide (chkTs u none ts = 0) = false := by rw [← he]; exact h
      rw [e0] at hQ
      rw [← he] at hQ
      exact hQ
    · rw [Bool.not_eq_false'] at h
      rw [h] at he
      simp only [cond_true] at he
      refine Sp.intro (fun h0 => ?_) (fun h0 => ⟨HF_tys ts, HF_tys ts, HF_vis vs, k - 1, by omega, i + 1, ?_, rfl, by omega, ?_⟩)
      · have h0' : 0 < i := by simpa using h0
        have hlt1 : i - 1 < ts.length := by omega
        have hat1 := ty_at hlt1
        rw [pred_in h0' (by omega)]
        refine ⟨ty_b hlt1, ty_c hlt1, ?_⟩
        simp only [Int.toNat_natCast, hat1]
        have hp : prevS ts i = some ts[i - 1].se := by
          obtain ⟨j, rfl⟩ : ∃ j, i = j + 1 := ⟨i - 1, by omega⟩
          simp only [prevS, Nat.add_sub_cancel, List.getElem?_eq_getElem (show j < ts.length by omega), Option.map_some]
        rw [hp] at he
        simp only [lessP] at he
        refine Sp.intro (fun h1 => ?_) (fun h1 => ⟨HF_tys ts, HF_tys ts, HF_vis vs, k - 1, by omega, i + 1, ?_, rfl, by omega, ?_⟩)
        · rw [h1] at he
          simp only [cond_true] at he
          rw [← he] at hQ
          exact hQ
        · rw [idx_succ (by omega)]
          rfl
        · rw [h1] at he
          exact he
      · rw [idx_succ (by omega)]
        rfl
      · obtain rfl : i = 0 := by simp at h0; omega
        simpa [prevS, lessP] using he
  · have : ts.drop i = [] := List.drop_eq_nil_of_le (by simp at h; omega)
    rw [this] at he
    have e0 : chkTs u none ts = 0 := he.symm
    rw [e0] at hQ
    exact ⟨HF_vis vs, HF_tys ts, HF_vis vs, CL_loop2 Q QA u ts vs hv hQ⟩
theorem CL_walk (u : Int) (ts : List Ty) (vs : List Vi) : Walk env Proofs.Tryz.f9 [logv u (ts.map tyv) (vs.map viv)] (.int .i64 (logE u ts vs)) := by
  refine sxFn_plain XC_ok (d := 1) (HFi _ _) ((jCL_nf _ _ u _ _).mpr ?_)
  refine Sp.intro (fun h => ?_) (fun h => Sp.intro (fun h1 => ?_) (fun h1 => Sp.intro (fun h2 => ?_) (fun h2 => ?_)))
  · rw [Bool.not_eq_true'] at h
    exact congrArg (Value.int .i64) (by simp only [logE, isIn, h, cond_false])
  · rw [Bool.not_eq_false'] at h
    simp only [List.length_map, decide_eq_true_eq] at h1
    have : decide (20000 < ts.length) = true := by simp; omega
    exact congrArg (Value.int .i64) (by simp only [logE, isIn, h, this, Bool.true_or, cond_true])
  · rw [Bool.not_eq_false'] at h
    simp only [List.length_map, decide_eq_true_eq] at h2
    have : decide (100000 < vs.length) = true := by simp; omega
    exact congrArg (Value.int .i64) (by simp only [logE, isIn, h, this, Bool.or_true, cond_true])
  · rw [Bool.not_eq_false'] at h
    simp only [List.length_map, decide_eq_false_iff_not] at h1 h2
    have e1 : decide (20000 < ts.length) = false := by simp; omega
    have e2 : decide (100000 < vs.length) = false := by simp; omega
    refine ⟨HF_tys ts, HF_tys ts, HF_vis vs, CL_loop1 _ _ u ts vs (by omega) (by omega) ?_⟩
    exact congrArg (Value.int .i64) (by simp only [logE, isIn, h, e1, e2, Bool.or_false, cond_true, cond_false])
end
end Go.T9
set_option maxRecDepth 1000000
set_option linter.unusedVariables false
set_option linter.unusedSimpArgs false
namespace Go.T9
open Go Go.AM
noncomputable section
def tfE (u : Int) (a : List Value) (i : Int) : Int := bif decide (chkT (tyAt a i) u = 0) then (bif decide (0 < i) && decide ((tyAt a i).se < (tyAt a (i - 1)).se) then 10 else 0) else chkT (tyAt a i) u
def XF : SX := ⟨env, tabI, elL, fun _ => .auto [] [1, 2, 5, 6, 74, 75, 76]⟩
theorem XF_ok : XF.Ok := ⟨env_ok, env_sym, env_gl, tabI_ok⟩
def frF (i : Nat) (la k : Int) : T Value := (.node (.node (.node .leaf none (.node .leaf none (.node (.node (.node .leaf (some (.int .i64 4)) .leaf) none .leaf) none .leaf))) (some (.int .i64 i)) (.node .leaf (some (.pointer (some ⟨1, 0, none⟩))) .leaf)) none (.node (.node .leaf none (.node .leaf none (.node (.node (.node .leaf (some (.int .i64 k)) .leaf) none .leaf) none .leaf))) (some (.pointer (some ⟨0, 0, none⟩))) (.node (.node .leaf none (.node (.node (.node .leaf (some (.slice (some ⟨2, 0, none⟩) 4 4)) .leaf) none .leaf) none .leaf)) (some (.int .i64 la)) .leaf)))
def hX (u : Int) (ts vs : List Value) (x : Ty) : AH := ⟨(.node (.node .leaf (some (.cells (tyv x).cells.toList 59)) .leaf) (some (.cells [.int .i64 u, dat 16 ts, dat 7 vs] 25)) (.node .leaf (some (.cells [.int .i64 x.ca, .int .i64 x.be, .int .i64 x.le, .int .i64 x.ba] 3)) .leaf)), 3⟩
def jTF (Q : Value → Prop) (QA : KV) (u : Int) (ts vs : List Value) (i : Nat) : Prop := sxFn XF 1 Proofs.Tryz.f36 [logv u ts vs, .int .i64 i] (leafK Q QA)
def jTS (Q : Value → Prop) (QA : KV) (again : KF) (u : Int) (ts vs : List Value) (i : Nat) (x : Ty) (la k : Int) : Prop := sxStepA XF 1 Proofs.Tryz.f36 [1, 1, 1, 1, 0, 1, 0] (leafK Q QA) [] [1, 2, 5, 6, 74, 75, 76] again (frF i la k) (hX u ts vs x)
def jTS0 (Q : Value → Prop) (QA : KV) (again : KF) (u : Int) (ts vs : List Value) (i : Nat) (x : Ty) (la : Int) : Prop := sxStepA XF 1 Proofs.Tryz.f36 [1, 1, 1, 1, 0, 1, 0] (leafK Q QA) [] [1, 2, 5, 6, 74, 75, 76] again (frF i la 0) (hX u ts vs x)
def jTS1 (Q : Value → Prop) (QA : KV) (again : KF) (u : Int) (ts vs : List Value) (i : Nat) (x : Ty) (la : Int) : Prop := sxStepA XF 1 Proofs.Tryz.f36 [1, 1, 1, 1, 0, 1, 0] (leafK Q QA) [] [1, 2, 5, 6, 74, 75, 76] again (frF i la 1) (hX u ts vs x)
def jTS2 (Q : Value → Prop) (QA : KV) (again : KF) (u : Int) (ts vs : List Value) (i : Nat) (x : Ty) (la : Int) : Prop := sxStepA XF 1 Proofs.Tryz.f36 [1, 1, 1, 1, 0, 1, 0] (leafK Q QA) [] [1, 2, 5, 6, 74, 75, 76] again (frF i la 2) (hX u ts vs x)
def jTS3 (Q : Value → Prop) (QA : KV) (again : KF) (u : Int) (ts vs : List Value) (i : Nat) (x : Ty) (la : Int) : Prop := sxStepA XF 1 Proofs.Tryz.f36 [1, 1, 1, 1, 0, 1, 0] (leafK Q QA) [] [1, 2, 5, 6, 74, 75, 76] again (frF i la 3) (hX u ts vs x)
def jTS4 (Q : Value → Prop) (QA : KV) (again : KF) (u : Int) (ts vs : List Value) (i : Nat) (x : Ty) (la : Int) : Prop := sxStepA XF 1 Proofs.Tryz.f36 [1, 1, 1, 1, 0, 1, 0] (leafK Q QA) [] [1, 2, 5, 6, 74, 75, 76] again (frF i la 4) (hX u ts vs x)
end
end Go.T9
set_option maxRecDepth 1000000
set_option linter.unusedVariables false
set_option linter.unusedSimpArgs false
set_option maxHeartbeats 4000000
namespace Go.T9
open Go Go.AM
noncomputable section
theorem jTF_nf (Q : Go.Value → Prop) (QA : KV) (u : Int) (ts : List Go.Value) (vs : List Go.Value) (i : Nat) : jTF Q QA u ts vs i = ((0 ≤ (↑i : Int) ∧ (↑i : Int) < (↑(List.length ts) : Int)) ∧ nth ts (Int.toNat (↑(Int.toNat (↑i : Int)) : Int)) = some (Value.agg (Array.mk [Value.int .i64 (Ty.g (tyAt ts (↑(Int.toNat (↑i : Int)) : Int))), Value.int .i64 (Ty.u (tyAt ts (↑(Int.toNat (↑i : Int)) : Int))), Value.int .i64 (Ty.a (tyAt ts (↑(Int.toNat (↑i : Int)) : Int))), Value.int .i64 (Ty.y (tyAt ts (↑(Int.toNat (↑i : Int)) : Int))), Value.string (Ty.nm (tyAt ts (↑(Int.toNat (↑i : Int)) : Int))), Value.int .i64 (Ty.sn (tyAt ts (↑(Int.toNat (↑i : Int)) : Int))), Value.int .i64 (Ty.se (tyAt ts (↑(Int.toNat (↑i : Int)) : Int))), Value.int .i64 (Ty.ca (tyAt ts (↑(Int.toNat (↑i : Int)) : Int))), Value.int .i64 (Ty.be (tyAt ts (↑(Int.toNat (↑i : Int)) : Int))), Value.int .i64 (Ty.le (tyAt ts (↑(Int.toNat (↑i : Int)) : Int))), Value.int .i64 (Ty.ba (tyAt ts (↑(Int.toNat (↑i : Int)) : Int))), Value.int .i64 (Ty.en (tyAt ts (↑(Int.toNat (↑i : Int)) : Int))), Value.int .i64 (Ty.oc (tyAt ts (↑(Int.toNat (↑i : Int)) : Int))), Value.int .i64 (Ty.su (tyAt ts (↑(Int.toNat (↑i : Int)) : Int))), Value.int .i64 (Ty.sb (tyAt ts (↑(Int.toNat (↑i : Int)) : Int))), Value.int .i64 (Ty.fa (tyAt ts (↑(Int.toNat (↑i : Int)) : Int)))])) ∧ Sp (!(decide (0 ≤ Ty.g (tyAt ts (↑(Int.toNat (↑i : Int)) : Int))) && decide (Ty.g (tyAt ts (↑(Int.toNat (↑i : Int)) : Int)) ≤ 19))) (Q (Value.int .i64 9)) (Sp (!(decide (0 ≤ Ty.u (tyAt ts (↑(Int.toNat (↑i : Int)) : Int))) && decide (Ty.u (tyAt ts (↑(Int.toNat (↑i : Int)) : Int)) ≤ 4999))) (Q (Value.int .i64 9)) (Sp (!(decide (0 ≤ Ty.a (tyAt ts (↑(Int.toNat (↑i : Int)) : Int))) && decide (Ty.a (tyAt ts (↑(Int.toNat (↑i : Int)) : Int)) ≤ 1999))) (Q (Value.int .i64 9)) (Sp (!(decide (0 ≤ Ty.y (tyAt ts (↑(Int.toNat (↑i : Int)) : Int))) && decide (Ty.y (tyAt ts (↑(Int.toNat (↑i : Int)) : Int)) ≤ 9))) (Q (Value.int .i64 9)) (Sp (!(decide (-1 ≤ Ty.sn (tyAt ts (↑(Int.toNat (↑i : Int)) : Int))) && decide (Ty.sn (tyAt ts (↑(Int.toNat (↑i : Int)) : Int)) ≤ 49))) (Q (Value.int .i64 9)) (Sp (!(decide (1 ≤ Ty.oc (tyAt ts (↑(Int.toNat (↑i : Int)) : Int))) && decide (Ty.oc (tyAt ts (↑(Int.toNat (↑i : Int)) : Int)) ≤ 4))) (Q (Value.int .i64 9)) (Sp (!(decide (0 ≤ Ty.su (tyAt ts (↑(Int.toNat (↑i : Int)) : Int))) && decide (Ty.su (tyAt ts (↑(Int.toNat (↑i : Int)) : Int)) ≤ 599))) (Q (Value.int .i64 9)) (Sp (!(decide (-1 ≤ Ty.sb (tyAt ts (↑(Int.toNat (↑i : Int)) : Int))) && decide (Ty.sb (tyAt ts (↑(Int.toNat (↑i : Int)) : Int)) ≤ 199))) (Q (Value.int .i64 9)) (Sp (!(decide (0 ≤ Ty.fa (tyAt ts (↑(Int.toNat (↑i : Int)) : Int))) && decide (Ty.fa (tyAt ts (↑(Int.toNat (↑i : Int)) : Int)) ≤ 50))) (Q (Value.int .i64 9)) (Sp (!(decide (0 ≤ Ty.se (tyAt ts (↑(Int.toNat (↑i : Int)) : Int))) && decide (Ty.se (tyAt ts (↑(Int.toNat (↑i : Int)) : Int)) ≤ u))) (Q (Value.int .i64 9)) (HF (Value.func (Go.Fn.yield 16) (Array.mk ts) (Array.mk [])) ∧ HF (Value.func (Go.Fn.yield 7) (Array.mk vs) (Array.mk [])) ∧ LAt XF 1 (Go.Func.ntmps Go.Proofs.Tryz.f36) (bodyOf Go.Proofs.Tryz.f36) [1, 1, 1, 1, 0, 1, 0] (finK (SX.E XF) (Array.toList (Go.Func.results Go.Proofs.Tryz.f36)) (leafK Q QA)) (T.node (T.node (T.node T.leaf none (T.node T.leaf none (T.node (T.node (T.node T.leaf (some (Value.int .i64 4)) T.leaf) none T.leaf) none T.leaf))) (some (Value.int .i64 (↑i : Int))) (T.node T.leaf (some (Value.pointer (some (Go.Addr.mk 1 0 none)))) T.leaf)) none (T.node (T.node T.leaf none (T.node T.leaf none (T.node (T.node (T.node T.leaf (some (Value.int .i64 0)) T.leaf) none T.leaf) none T.leaf))) (some (Value.pointer (some (Go.Addr.mk 0 0 none)))) (T.node (T.node T.leaf none (T.node (T.node (T.node T.leaf (some (Value.slice (some (Go.Addr.mk 2 0 none)) 4 4)) T.leaf) none T.leaf) none T.leaf)) (some (Value.int .i64 (Ty.se (tyAt ts (↑(Int.toNat (↑i : Int)) : Int))))) T.leaf))) (AH.mk (T.node (T.node T.leaf (some (AObj.cells [Value.int .i64 (Ty.g (tyAt ts (↑(Int.toNat (↑i : Int)) : Int))), Value.int .i64 (Ty.u (tyAt ts (↑(Int.toNat (↑i : Int)) : Int))), Value.int .i64 (Ty.a (tyAt ts (↑(Int.toNat (↑i : Int)) : Int))), Value.int .i64 (Ty.y (tyAt ts (↑(Int.toNat (↑i : Int)) : Int))), Value.string (Ty.nm (tyAt ts (↑(Int.toNat (↑i : Int)) : Int))), Value.int .i64 (Ty.sn (tyAt ts (↑(Int.toNat (↑i : Int)) : Int))), Value.int .i64 (Ty.se (tyAt ts (↑(Int.toNat (↑i : Int)) : Int))), Value.int .i64 (Ty.ca (tyAt ts (↑(Int.toNat (↑i : Int)) : Int))), Value.int .i64 (Ty.be (tyAt ts (↑(Int.toNat (↑i : Int)) : Int))), Value.int .i64 (Ty.le (tyAt ts (↑(Int.toNat (↑i : Int)) : Int))), Value.int .i64 (Ty.ba (tyAt ts (↑(Int.toNat (↑i : Int)) : Int))), Value.int .i64 (Ty.en (tyAt ts (↑(Int.toNat (↑i : Int)) : Int))), Value.int .i64 (Ty.oc (tyAt ts (↑(Int.toNat (↑i : Int)) : Int))), Value.int .i64 (Ty.su (tyAt ts (↑(Int.toNat (↑i : Int)) : Int))), Value.int .i64 (Ty.sb (tyAt ts (↑(Int.toNat (↑i : Int)) : Int))), Value.int .i64 (Ty.fa (tyAt ts (↑(Int.toNat (↑i : Int)) : Int)))] 59)) T.leaf) (some (AObj.cells [Value.int .i64 u, Value.func (Go.Fn.yield 16) (Array.mk ts) (Array.mk []), Value.func (Go.Fn.yield 7) (Array.mk vs) (Array.mk [])] 25)) (T.node T.leaf (some (AObj.cells [Value.int .i64 (Ty.ca (tyAt ts (↑(Int.toNat (↑i : Int)) : Int))), Value.int .i64 (Ty.be (tyAt ts (↑(Int.toNat (↑i : Int)) : Int))), Value.int .i64 (Ty.le (tyAt ts (↑(Int.toNat (↑i : Int)) : Int))), Value.int .i64 (Ty.ba (tyAt ts (↑(Int.toNat (↑i : Int)) : Int)))] 3)) T.leaf)) 3)))))))))))) := by kernel_rfl
theorem jTS0_nf (Q : Go.Value → Prop) (QA : KV) (again : KF) (u : Int) (ts : List Go.Value) (vs : List Go.Value) (i : Nat) (x : Ty) (la : Int) : jTS0 Q QA again u ts vs i x la = (Sp (decide (Ty.ca x = -1)) (HF (Value.func (Go.Fn.yield 16) (Array.mk ts) (Array.mk [])) ∧ HF (Value.func (Go.Fn.yield 7) (Array.mk vs) (Array.mk [])) ∧ again (T.node (T.node (T.node T.leaf none (T.node T.leaf none (T.node (T.node (T.node T.leaf (some (Value.int .i64 4)) T.leaf) none T.leaf) none T.leaf))) (some (Value.int .i64 (↑i : Int))) (T.node T.leaf (some (Value.pointer (some (Go.Addr.mk 1 0 none)))) T.leaf)) none (T.node (T.node T.leaf none (T.node T.leaf none (T.node (T.node (T.node T.leaf (some (Value.int .i64 1)) T.leaf) none T.leaf) none T.leaf))) (some (Value.pointer (some (Go.Addr.mk 0 0 none)))) (T.node (T.node T.leaf none (T.node (T.node (T.node T.leaf (some (Value.slice (some (Go.Addr.mk 2 0 none)) 4 4)) T.leaf) none T.leaf) none T.leaf)) (some (Value.int .i64 la)) T.leaf))) (AH.mk (T.node (T.node T.leaf (some (AObj.cells [Value.int .i64 (Ty.g x), Value.int .i64 (Ty.u x), Value.int .i64 (Ty.a x), Value.int .i64 (Ty.y x), Value.string (Ty.nm x), Value.int .i64 (Ty.sn x), Value.int .i64 (Ty.se x), Value.int .i64 (Ty.ca x), Value.int .i64 (Ty.be x), Value.int .i64 (Ty.le x), Value.int .i64 (Ty.ba x), Value.int .i64 (Ty.en x), Value.int .i64 (Ty.oc x), Value.int .i64 (Ty.su x), Value.int .i64 (Ty.sb x), Value.int .i64 (Ty.fa x)] 59)) T.leaf) (some (AObj.cells [Value.int .i64 u, Value.func (Go.Fn.yield 16) (Array.mk ts) (Array.mk []), Value.func (Go.Fn.yield 7) (Array.mk vs) (Array.mk [])] 25)) (T.node T.leaf (some (AObj.cells [Value.int .i64 (Ty.ca x), Value.int .i64 (Ty.be x), Value.int .i64 (Ty.le x), Value.int .i64 (Ty.ba x)] 3)) T.leaf)) 3)) (Sp (decide (Ty.ca x < la)) (Q (Value.int .i64 10)) (Sp (decide (u < Ty.ca x)) (Q (Value.int .i64 10)) (HF (Value.func (Go.Fn.yield 16) (Array.mk ts) (Array.mk [])) ∧ HF (Value.func (Go.Fn.yield 7) (Array.mk vs) (Array.mk [])) ∧ again (T.node (T.node (T.node T.leaf none (T.node T.leaf none (T.node (T.node (T.node T.leaf (some (Value.int .i64 4)) T.leaf) none T.leaf) none T.leaf))) (some (Value.int .i64 (↑i : Int))) (T.node T.leaf (some (Value.pointer (some (Go.Addr.mk 1 0 none)))) T.leaf)) none (T.node (T.node T.leaf none (T.node T.leaf none (T.node (T.node (T.node T.leaf (some (Value.int .i64 1)) T.leaf) none T.leaf) none T.leaf))) (some (Value.pointer (some (Go.Addr.mk 0 0 none)))) (T.node (T.node T.leaf none (T.node (T.node (T.node T.leaf (some (Value.slice (some (Go.Addr.mk 2 0 none)) 4 4)) T.leaf) none T.leaf) none T.leaf)) (some (Value.int .i64 (Ty.ca x))) T.leaf))) (AH.mk (T.node (T.node T.leaf (some (AObj.cells [Value.int .i64 (Ty.g x), Value.int .i64 (Ty.u x), Value.int .i64 (Ty.a x), Value.int .i64 (Ty.y x), Value.string (Ty.nm x), Value.int .i64 (Ty.sn x), Value.int .i64 (Ty.se x), Value.int .i64 (Ty.ca x), Value.int .i64 (Ty.be x), Value.int .i64 (Ty.le x), Value.int .i64 (Ty.ba x), Value.int .i64 (Ty.en x), Value.int .i64 (Ty.oc x), Value.int .i64 (Ty.su x), Value.int .i64 (Ty.sb x), Value.int .i64 (Ty.fa x)] 59)) T.leaf) (some (AObj.cells [Value.int .i64 u, Value.func (Go.Fn.yield 16) (Array.mk ts) (Array.mk []), Value.func (Go.Fn.yield 7) (Array.mk vs) (Array.mk [])] 25)) (T.node T.leaf (some (AObj.cells [Value.int .i64 (Ty.ca x), Value.int .i64 (Ty.be x), Value.int .i64 (Ty.le x), Value.int .i64 (Ty.ba x)] 3)) T.leaf)) 3))))) := by kernel_rfl
theorem jTS1_nf (Q : Go.Value → Prop) (QA : KV) (again : KF) (u : Int) (ts : List Go.Value) (vs : List Go.Value) (i : Nat) (x : Ty) (la : Int) : jTS1 Q QA again u ts vs i x la = (Sp (decide (Ty.be x = -1)) (HF (Value.func (Go.Fn.yield 16) (Array.mk ts) (Array.mk [])) ∧ HF (Value.func (Go.Fn.yield 7) (Array.mk vs) (Array.mk [])) ∧ again (T.node (T.node (T.node T.leaf none (T.node T.leaf none (T.node (T.node (T.node T.leaf (some (Value.int .i64 4)) T.leaf) none T.leaf) none T.leaf))) (some (Value.int .i64 (↑i : Int))) (T.node T.leaf (some (Value.pointer (some (Go.Addr.mk 1 0 none)))) T.leaf)) none (T.node (T.node T.leaf none (T.node T.leaf none (T.node (T.node (T.node T.leaf (some (Value.int .i64 2)) T.leaf) none T.leaf) none T.leaf))) (some (Value.pointer (some (Go.Addr.mk 0 0 none)))) (T.node (T.node T.leaf none (T.node (T.node (T.node T.leaf (some (Value.slice (some (Go.Addr.mk 2 0 none)) 4 4)) T.leaf) none T.leaf) none T.leaf)) (some (Value.int .i64 la)) T.leaf))) (AH.mk (T.node (T.node T.leaf (some (AObj.cells [Value.int .i64 (Ty.g x), Value.int .i64 (Ty.u x), Value.int .i64 (Ty.a x), Value.int .i64 (Ty.y x), Value.string (Ty.nm x), Value.int .i64 (Ty.sn x), Value.int .i64 (Ty.se x), Value.int .i64 (Ty.ca x), Value.int .i64 (Ty.be x), Value.int .i64 (Ty.le x), Value.int .i64 (Ty.ba x), Value.int .i64 (Ty.en x), Value.int .i64 (Ty.oc x), Value.int .i64 (Ty.su x), Value.int .i64 (Ty.sb x), Value.int .i64 (Ty.fa x)] 59)) T.leaf) (some (AObj.cells [Value.int .i64 u, Value.func (Go.Fn.yield 16) (Array.mk ts) (Array.mk []), Value.func (Go.Fn.yield 7) (Array.mk vs) (Array.mk [])] 25)) (T.node T.leaf (some (AObj.cells [Value.int .i64 (Ty.ca x), Value.int .i64 (Ty.be x), Value.int .i64 (Ty.le x), Value.int .i64 (Ty.ba x)] 3)) T.leaf)) 3)) (Sp (decide (Ty.be x < la)) (Q (Value.int .i64 10)) (Sp (decide (u < Ty.be x)) (Q (Value.int .i64 10)) (HF (Value.func (Go.Fn.yield 16) (Array.mk ts) (Array.mk [])) ∧ HF (Value.func (Go.Fn.yield 7) (Array.mk vs) (Array.mk [])) ∧ again (T.node (T.node (T.node T.leaf none (T.node T.leaf none (T.node (T.node (T.node T.leaf (some (Value.int .i64 4)) T.leaf) none T.leaf) none T.leaf))) (some (Value.int .i64 (↑i : Int))) (T.node T.leaf (some (Value.pointer (some (Go.Addr.mk 1 0 none)))) T.leaf)) none (T.node (T.node T.leaf none (T.node T.leaf none (T.node (T.node (T.node T.leaf (some (Value.int .i64 2)) T.leaf) none T.leaf) none T.leaf))) (some (Value.pointer (some (Go.Addr.mk 0 0 none)))) (T.node (T.node T.leaf none (T.node (T.node (T.node T.leaf (some (Value.slice (some (Go.Addr.mk 2 0 none)) 4 4)) T.leaf) none T.leaf) none T.leaf)) (some (Value.int .i64 (Ty.be x))) T.leaf))) (AH.mk (T.node (T.node T.leaf (some (AObj.cells [Value.int .i64 (Ty.g x), Value.int .i64 (Ty.u x), Value.int .i64 (Ty.a x), Value.int .i64 (Ty.y x), Value.string (Ty.nm x), Value.int .i64 (Ty.sn x), Value.int .i64 (Ty.se x), Value.int .i64 (Ty.ca x), Value.int .i64 (Ty.be x), Value.int .i64 (Ty.le x), Value.int .i64 (Ty.ba x), Value.int .i64 (Ty.en x), Value.int .i64 (Ty.oc x), Value.int .i64 (Ty.su x), Value.int .i64 (Ty.sb x), Value.int .i64 (Ty.fa x)] 59)) T.leaf) (some (AObj.cells [Value.int .i64 u, Value.func (Go.Fn.yield 16) (Array.mk ts) (Array.mk []), Value.func (Go.Fn.yield 7) (Array.mk vs) (Array.mk [])] 25)) (T.node T.leaf (some (AObj.cells [Value.int .i64 (Ty.ca x), Value.int .i64 (Ty.be x), Value.int .i64 (Ty.le x), Value.int .i64 (Ty.ba x)] 3)) T.leaf)) 3))))) := by kernel_rfl
theorem jTS2_nf (Q : Go.Value → Prop) (QA : KV) (again : KF) (u : Int) (ts : List Go.Value) (vs : List Go.Value) (i : Nat) (x : Ty) (la : Int) : jTS2 Q QA again u ts vs i x la = (Sp (decide (Ty.le x = -1)) (HF (Value.func (Go.Fn.yield 16) (Array.mk ts) (Array.mk [])) ∧ HF (Value.func (Go.Fn.yield 7) (Array.mk vs) (Array.mk [])) ∧ again (T.node (T.node (T.node T.leaf none (T.node T.leaf none (T.node (T.node (T.node T.leaf (some (Value.int .i64 4)) T.leaf) none T.leaf) none T.leaf))) (some (Value.int .i64 (↑i : Int))) (T.node T.leaf (some (Value.pointer (some (Go.Addr.mk 1 0 none)))) T.leaf)) none (T.node (T.node T.leaf none (T.node T.leaf none (T.node (T.node (T.node T.leaf (some (Value.int .i64 3)) T.leaf) none T.leaf) none T.leaf))) (some (Value.pointer (some (Go.Addr.mk 0 0 none)))) (T.node (T.node T.leaf none (T.node (T.node (T.node T.leaf (some (Value.slice (some (Go.Addr.mk 2 0 none)) 4 4)) T.leaf) none T.leaf) none T.leaf)) (some (Value.int .i64 la)) T.leaf))) (AH.mk (T.node (T.node T.leaf (some (AObj.cells [Value.int .i64 (Ty.g x), Value.int .i64 (Ty.u x), Value.int .i64 (Ty.a x), Value.int .i64 (Ty.y x), Value.string (Ty.nm x), Value.int .i64 (Ty.sn x), Value.int .i64 (Ty.se x), Value.int .i64 (Ty.ca x), Value.int .i64 (Ty.be x), Value.int .i64 (Ty.le x), Value.int .i64 (Ty.ba x), Value.int .i64 (Ty.en x), Value.int .i64 (Ty.oc x), Value.int .i64 (Ty.su x), Value.int .i64 (Ty.sb x), Value.int .i64 (Ty.fa x)] 59)) T.leaf) (some (AObj.cells [Value.int .i64 u, Value.func (Go.Fn.yield 16) (Array.mk ts) (Array.mk []), Value.func (Go.Fn.yield 7) (Array.mk vs) (Array.mk [])] 25)) (T.node T.leaf (some (AObj.cells [Value.int .i64 (Ty.ca x), Value.int .i64 (Ty.be x), Value.int .i64 (Ty.le x), Value.int .i64 (Ty.ba x)] 3)) T.leaf)) 3)) (Sp (decide (Ty.le x < la)) (Q (Value.int .i64 10)) (Sp (decide (u < Ty.le x)) (Q (Value.int .i64 10)) (HF (Value.func (Go.Fn.yield 16) (Array.mk ts) (Array.mk [])) ∧ HF (Value.func (Go.Fn.yield 7) (Array.mk vs) (Array.mk [])) ∧ again (T.node (T.node (T.node T.leaf none (T.node T.leaf none (T.node (T.node (T.node T.leaf (some (Value.int .i64 4)) T.leaf) none T.leaf) none T.leaf))) (some (Value.int .i64 (↑i : Int))) (T.node T.leaf (some (Value.pointer (some (Go.Addr.mk 1 0 none)))) T.leaf)) none (T.node (T.node T.leaf none (T.node T.leaf none (T.node (T.node (T.node T.leaf (some (Value.int .i64 3)) T.leaf) none T.leaf) none T.leaf))) (some (Value.pointer (some (Go.Addr.mk 0 0 none)))) (T.node (T.node T.leaf none (T.node (T.node (T.node T.leaf (some (Value.slice (some (Go.Addr.mk 2 0 none)) 4 4)) T.leaf) none T.leaf) none T.leaf)) (some (Value.int .i64 (Ty.le x))) T.leaf))) (AH.mk (T.node (T.node T.leaf (some (AObj.cells [Value.int .i64 (Ty.g x), Value.int .i64 (Ty.u x), Value.int .i64 (Ty.a x), Value.int .i64 (Ty.y x), Value.string (Ty.nm x), Value.int .i64 (Ty.sn x), Value.int .i64 (Ty.se x), Value.int .i64 (Ty.ca x), Value.int .i64 (Ty.be x), Value.int .i64 (Ty.le x), Value.int .i64 (Ty.ba x), Value.int .i64 (Ty.en x), Value.int .i64 (Ty.oc x), Value.int .i64 (Ty.su x), Value.int .i64 (Ty.sb x), Value.int .i64 (Ty.fa x)] 59)) T.leaf) (some (AObj.cells [Value.int .i64 u, Value.func (Go.Fn.yield 16) (Array.mk ts) (Array.mk []), Value.func (Go.Fn.yield 7) (Array.mk vs) (Array.mk [])] 25)) (T.node T.leaf (some (AObj.cells [Value.int .i64 (Ty.ca x), Value.int .i64 (Ty.be x), Value.int .i64 (Ty.le x), Value.int .i64 (Ty.ba x)] 3)) T.leaf)) 3))))) := by kernel_rfl
theorem jTS3_nf (Q : Go.Value → Prop) (QA : KV) (again : KF) (u : Int) (ts : List Go.Value) (vs : List Go.Value) (i : Nat) (x : Ty) (la : Int) : jTS3 Q QA again u ts vs i x la = (Sp (decide (Ty.ba x = -1)) (HF (Value.func (Go.Fn.yield 16) (Array.mk ts) (Array.mk [])) ∧ HF (Value.func (Go.Fn.yield 7) (Array.mk vs) (Array.mk [])) ∧ again (T.node (T.node (T.node T.leaf none (T.node T.leaf none (T.node (T.node (T.node T.leaf (some (Value.int .i64 4)) T.leaf) none T.leaf) none T.leaf))) (some (Value.int .i64 (↑i : Int))) (T.node T.leaf (some (Value.pointer (some (Go.Addr.mk 1 0 none)))) T.leaf)) none (T.node (T.node T.leaf none (T.node T.leaf none (T.node (T.node (T.node T.leaf (some (Value.int .i64 4)) T.leaf) none T.leaf) none T.leaf))) (some (Value.pointer (some (Go.Addr.mk 0 0 none)))) (T.node (T.node T.leaf none (T.node (T.node (T.node T.leaf (some (Value.slice (some (Go.Addr.mk 2 0 none)) 4 4)) T.leaf) none T.leaf) none T.leaf)) (some (Value.int .i64 la)) T.leaf))) (AH.mk (T.node (T.node T.leaf (some (AObj.cells [Value.int .i64 (Ty.g x), Value.int .i64 (Ty.u x), Value.int .i64 (Ty.a x), Value.int .i64 (Ty.y x), Value.string (Ty.nm x), Value.int .i64 (Ty.sn x), Value.int .i64 (Ty.se x), Value.int .i64 (Ty.ca x), Value.int .i64 (Ty.be x), Value.int .i64 (Ty.le x), Value.int .i64 (Ty.ba x), Value.int .i64 (Ty.en x), Value.int .i64 (Ty.oc x), Value.int .i64 (Ty.su x), Value.int .i64 (Ty.sb x), Value.int .i64 (Ty.fa x)] 59)) T.leaf) (some (AObj.cells [Value.int .i64 u, Value.func (Go.Fn.yield 16) (Array.mk ts) (Array.mk []), Value.func (Go.Fn.yield 7) (Array.mk vs) (Array.mk [])] 25)) (T.node T.leaf (some (AObj.cells [Value.int .i64 (Ty.ca x), Value.int .i64 (Ty.be x), Value.int .i64 (Ty.le x), Value.int .i64 (Ty.ba x)] 3)) T.leaf)) 3)) (Sp (decide (Ty.ba x < la)) (Q (Value.int .i64 10)) (Sp (decide (u < Ty.ba x)) (Q (Value.int .i64 10)) (HF (Value.func (Go.Fn.yield 16) (Array.mk ts) (Array.mk [])) ∧ HF (Value.func (Go.Fn.yield 7) (Array.mk vs) (Array.mk [])) ∧ again (T.node (T.node (T.node T.leaf none (T.node T.leaf none (T.node (T.node (T.node T.leaf (some (Value.int .i64 4)) T.leaf) none T.leaf) none T.leaf))) (some (Value.int .i64 (↑i : Int))) (T.node T.leaf (some (Value.pointer (some (Go.Addr.mk 1 0 none)))) T.leaf)) none (T.node (T.node T.leaf none (T.node T.leaf none (T.node (T.node (T.node T.leaf (some (Value.int .i64 4)) T.leaf) none T.leaf) none T.leaf))) (some (Value.pointer (some (Go.Addr.mk 0 0 none)))) (T.node (T.node T.leaf none (T.node (T.node (T.node T.leaf (some (Value.slice (some (Go.Addr.mk 2 0 none)) 4 4)) T.leaf) none T.leaf) none T.leaf)) (some (Value.int .i64 (Ty.ba x))) T.leaf))) (AH.mk (T.node (T.node T.leaf (some (AObj.cells [Value.int .i64 (Ty.g x), Value.int .i64 (Ty.u x), Value.int .i64 (Ty.a x), Value.int .i64 (Ty.y x), Value.string (Ty.nm x), Value.int .i64 (Ty.sn x), Value.int .i64 (Ty.se x), Value.int .i64 (Ty.ca x), Value.int .i64 (Ty.be x), Value.int .i64 (Ty.le x), Value.int .i64 (Ty.ba x), Value.int .i64 (Ty.en x), Value.int .i64 (Ty.oc x), Value.int .i64 (Ty.su x), Value.int .i64 (Ty.sb x), Value.int .i64 (Ty.fa x)] 59)) T.leaf) (some (AObj.cells [Value.int .i64 u, Value.func (Go.Fn.yield 16) (Array.mk ts) (Array.mk []), Value.func (Go.Fn.yield 7) (Array.mk vs) (Array.mk [])] 25)) (T.node T.leaf (some (AObj.cells [Value.int .i64 (Ty.ca x), Value.int .i64 (Ty.be x), Value.int .i64 (Ty.le x), Value.int .i64 (Ty.ba x)] 3)) T.leaf)) 3))))) := by kernel_rfl
theorem jTS4_nf (Q : Go.Value → Prop) (QA : KV) (again : KF) (u : Int) (ts : List Go.Value) (vs : List Go.Value) (i : Nat) (x : Ty) (la : Int) : jTS4 Q QA again u ts vs i x la = (Sp (!decide (Ty.be x = -1)) (Sp (decide (Ty.ca x = -1)) (Q (Value.int .i64 2)) (Sp (!decide (Ty.en x = -1) == decide (Ty.oc x = 4)) (Q (Value.int .i64 2)) (Sp (decide (Ty.oc x = 1)) (Sp (!decide (Ty.en x = Ty.ba x)) (Q (Value.int .i64 2)) (Sp (decide (Ty.oc x = 3)) (Sp (!decide (Ty.en x = Ty.se x)) (Q (Value.int .i64 2)) (Sp (!decide (Ty.en x = -1)) (Sp (!(decide (Ty.se x ≤ Ty.en x) && decide (Ty.en x ≤ u))) (Q (Value.int .i64 9)) (Sp (decide (0 < (↑i : Int))) ((0 ≤ IntKind.wrap .i64 ((↑i : Int) - 1) ∧ IntKind.wrap .i64 ((↑i : Int) - 1) < (↑(List.length ts) : Int)) ∧ nth ts (Int.toNat (↑(Int.toNat (IntKind.wrap .i64 ((↑i : Int) - 1))) : Int)) = some (Value.agg (Array.mk [Value.int .i64 (Ty.g (tyAt ts (↑(Int.toNat (IntKind.wrap .i64 ((↑i : Int) - 1))) : Int))), Value.int .i64 (Ty.u (tyAt ts (↑(Int.toNat (IntKind.wrap .i64 ((↑i : Int) - 1))) : Int))), Value.int .i64 (Ty.a (tyAt ts (↑(Int.toNat (IntKind.wrap .i64 ((↑i : Int) - 1))) : Int))), Value.int .i64 (Ty.y (tyAt ts (↑(Int.toNat (IntKind.wrap .i64 ((↑i : Int) - 1))) : Int))), Value.string (Ty.nm (tyAt ts (↑(Int.toNat (IntKind.wrap .i64 ((↑i : Int) - 1))) : Int))), Value.int .i64 (Ty.sn (tyAt ts (↑(Int.toNat (IntKind.wrap .i64 ((↑i : Int) - 1))) : Int))), Value.int .i64 (Ty.se (tyAt ts (↑(Int.toNat (IntKind.wrap .i64 ((↑i : Int) - 1))) : Int))), Value.int .i64 (Ty.ca (tyAt ts (↑(Int.toNat (IntKind.wrap .i64 ((↑i : Int) - 1))) : Int))), Value.int .i64 (Ty.be (tyAt ts (↑(Int.toNat (IntKind.wrap .i64 ((↑i : Int) - 1))) : Int))), Value.int .i64 (Ty.le (tyAt ts (↑(Int.toNat (IntKind.wrap .i64 ((↑i : Int) - 1))) : Int))), Value.int .i64 (Ty.ba (tyAt ts (↑(Int.toNat (IntKind.wrap .i64 ((↑i : Int) - 1))) : Int))), Value.int .i64 (Ty.en (tyAt ts (↑(Int.toNat (IntKind.wrap .i64 ((↑i : Int) - 1))) : Int))), Value.int .i64 (Ty.oc (tyAt ts (↑(Int.toNat (IntKind.wrap .i64 ((↑i : Int) - 1))) : Int))), Value.int .i64 (Ty.su (tyAt ts (↑(Int.toNat (IntKind.wrap .i64 ((↑i : Int) - 1))) : Int))), Value.int .i64 (Ty.sb (tyAt ts (↑(Int.toNat (IntKind.wrap .i64 ((↑i : Int) - 1))) : Int))), Value.int .i64 (Ty.fa (tyAt ts (↑(Int.toNat (IntKind.wrap .i64 ((↑i : Int) - 1))) : Int)))])) ∧ Sp (decide (Ty.se x < Ty.se (tyAt ts (↑(Int.toNat (IntKind.wrap .i64 ((↑i : Int) - 1))) : Int)))) (Q (Value.int .i64 10)) (Q (Value.int .i64 0))) (Q (Value.int .i64 0)))) (Sp (decide (0 < (↑i : Int))) ((0 ≤ IntKind.wrap .i64 ((↑i : Int) - 1) ∧ IntKind.wrap .i64 ((↑i : Int) - 1) < (↑(List.length ts) : Int)) ∧ nth ts (Int.toNat (↑(Int.toNat (IntKind.wrap .i64 ((↑i : Int) - 1))) : Int)) = some (Value.agg (Array.mk [Value.int .i64 (Ty.g (tyAt ts (↑(Int.toNat (IntKind.wrap .i64 ((↑i : Int) - 1))) : Int))), Value.int .i64 (Ty.u (tyAt ts (↑(Int.toNat (IntKind.wrap .i64 ((↑i : Int) - 1))) : Int))), Value.int .i64 (Ty.a (tyAt ts (↑(Int.toNat (IntKind.wrap .i64 ((↑i : Int) - 1))) : Int))), Value.int .i64 (Ty.y (tyAt ts (↑(Int.toNat (IntKind.wrap .i64 ((↑i : Int) - 1))) : Int))), Value.string (Ty.nm (tyAt ts (↑(Int.toNat (IntKind.wrap .i64 ((↑i : Int) - 1))) : Int))), Value.int .i64 (Ty.sn (tyAt ts (↑(Int.toNat (IntKind.wrap .i64 ((↑i : Int) - 1))) : Int))), Value.int .i64 (Ty.se (tyAt ts (↑(Int.toNat (IntKind.wrap .i64 ((↑i : Int) - 1))) : Int))), Value.int .i64 (Ty.ca (tyAt ts (↑(Int.toNat (IntKind.wrap .i64 ((↑i : Int) - 1))) : Int))), Value.int .i64 (Ty.be (tyAt ts (↑(Int.toNat (IntKind.wrap .i64 ((↑i : Int) - 1))) : Int))), Value.int .i64 (Ty.le (tyAt ts (↑(Int.toNat (IntKind.wrap .i64 ((↑i : Int) - 1))) : Int))), Value.int .i64 (Ty.ba (tyAt ts (↑(Int.toNat (IntKind.wrap .i64 ((↑i : Int) - 1))) : Int))), Value.int .i64 (Ty.en (tyAt ts (↑(Int.toNat (IntKind.wrap .i64 ((↑i : Int) - 1))) : Int))), Value.int .i64 (Ty.oc (tyAt ts (↑(Int.toNat (IntKind.wrap .i64 ((↑i : Int) - 1))) : Int))), Value.int .i64 (Ty.su (tyAt ts (↑(Int.toNat (IntKind.wrap .i64 ((↑i : Int) - 1))) : Int))), Value.int .i64 (Ty.sb (tyAt ts (↑(Int.toNat (IntKind.wrap .i64 ((↑i : Int) - 1))) : Int))), Value.int .i64 (Ty.fa (tyAt ts (↑(Int.toNat (IntKind.wrap .i64 ((↑i : Int) - 1))) : Int)))])) ∧ Sp (decide (Ty.se x < Ty.se (tyAt ts (↑(Int.toNat (IntKind.wrap .i64 ((↑i : Int) - 1))) : Int)))) (Q (Value.int .i64 10)) (Q (Value.int .i64 0))) (Q (Value.int .i64 0))))) (Sp (!decide (Ty.en x = -1)) (Sp (!(decide (Ty.se x ≤ Ty.en x) && decide (Ty.en x ≤ u))) (Q (Value.int .i64 9)) (Sp (decide (0 < (↑i : Int))) ((0 ≤ IntKind.wrap .i64 ((↑i : Int) - 1) ∧ IntKind.wrap .i64 ((↑i : Int) - 1) < (↑(List.length ts) : Int)) ∧ nth ts (Int.toNat (↑(Int.toNat (IntKind.wrap .i64 ((↑i : Int) - 1))) : Int)) = some (Value.agg (Array.mk [Value.int .i64 (Ty.g (tyAt ts (↑(Int.toNat (IntKind.wrap .i64 ((↑i : Int) - 1))) : Int))), Value.int .i64 (Ty.u (tyAt ts (↑(Int.toNat (IntKind.wrap .i64 ((↑i : Int) - 1))) : Int))), Value.int .i64 (Ty.a (tyAt ts (↑(Int.toNat (IntKind.wrap .i64 ((↑i : Int) - 1))) : Int))), Value.int .i64 (Ty.y (tyAt ts (↑(Int.toNat (IntKind.wrap .i64 ((↑i : Int) - 1))) : Int))), Value.string (Ty.nm (tyAt ts (↑(Int.toNat (IntKind.wrap .i64 ((↑i : Int) - 1))) : Int))), Value.int .i64 (Ty.sn (tyAt ts (↑(Int.toNat (IntKind.wrap .i64 ((↑i : Int) - 1))) : Int))), Value.int .i64 (Ty.se (tyAt ts (↑(Int.toNat (IntKind.wrap .i64 ((↑i : Int) - 1))) : Int))), Value.int .i64 (Ty.ca (tyAt ts (↑(Int.toNat (IntKind.wrap .i64 ((↑i : Int) - 1))) : Int))), Value.int .i64 (Ty.be (tyAt ts (↑(Int.toNat (IntKind.wrap .i64 ((↑i : Int) - 1))) : Int))), Value.int .i64 (Ty.le (tyAt ts (↑(Int.toNat (IntKind.wrap .i64 ((↑i : Int) - 1))) : Int))), Value.int .i64 (Ty.ba (tyAt ts (↑(Int.toNat (IntKind.wrap .i64 ((↑i : Int) - 1))) : Int))), Value.int .i64 (Ty.en (tyAt ts (↑(Int.toNat (IntKind.wrap .i64 ((↑i : Int) - 1))) : Int))), Value.int .i64 (Ty.oc (tyAt ts (↑(Int.toNat (IntKind.wrap .i64 ((↑i : Int) - 1))) : Int))), Value.int .i64 (Ty.su (tyAt ts (↑(Int.toNat (IntKind.wrap .i64 ((↑i : Int) - 1))) : Int))), Value.int .i64 (Ty.sb (tyAt ts (↑(Int.toNat (IntKind.wrap .i64 ((↑i : Int) - 1))) : Int))), Value.int .i64 (Ty.fa (tyAt ts (↑(Int.toNat (IntKind.wrap .i64 ((↑i : Int) - 1))) : Int)))])) ∧ Sp (decide (Ty.se x < Ty.se (tyAt ts (↑(Int.toNat (IntKind.wrap .i64 ((↑i : Int) - 1))) : Int)))) (Q (Value.int .i64 10)) (Q (Value.int .i64 0))) (Q (Value.int .i64 0)))) (Sp (decide (0 < (↑i : Int))) ((0 ≤ IntKind.wrap .i64 ((↑i : Int) - 1) ∧ IntKind.wrap .i64 ((↑i : Int) - 1) < (↑(List.length ts) : Int)) ∧ nth ts (Int.toNat (↑(Int.toNat (IntKind.wrap .i64 ((↑i : Int) - 1))) : Int)) = some (Value.agg (Array.mk [Value.int .i64 (Ty.g (tyAt ts (↑(Int.toNat (IntKind.wrap .i64 ((↑i : Int) - 1))) : Int))), Value.int .i64 (Ty.u (tyAt ts (↑(Int.toNat (IntKind.wrap .i64 ((↑i : Int) - 1))) : Int))), Value.int .i64 (Ty.a (tyAt ts (↑(Int.toNat (IntKind.wrap .i64 ((↑i : Int) - 1))) : Int))), Value.int .i64 (Ty.y (tyAt ts (↑(Int.toNat (IntKind.wrap .i64 ((↑i : Int) - 1))) : Int))), Value.string (Ty.nm (tyAt ts (↑(Int.toNat (IntKind.wrap .i64 ((↑i : Int) - 1))) : Int))), Value.int .i64 (Ty.sn (tyAt ts (↑(Int.toNat (IntKind.wrap .i64 ((↑i : Int) - 1))) : Int))), Value.int .i64 (Ty.se (tyAt ts (↑(Int.toNat (IntKind.wrap .i64 ((↑i : Int) - 1))) : Int))), Value.int .i64 (Ty.ca (tyAt ts (↑(Int.toNat (IntKind.wrap .i64 ((↑i : Int) - 1))) : Int))), Value.int .i64 (Ty.be (tyAt ts (↑(Int.toNat (IntKind.wrap .i64 ((↑i : Int) - 1))) : Int))), Value.int .i64 (Ty.le (tyAt ts (↑(Int.toNat (IntKind.wrap .i64 ((↑i : Int) - 1))) : Int))), Value.int .i64 (Ty.ba (tyAt ts (↑(Int.toNat (IntKind.wrap .i64 ((↑i : Int) - 1))) : Int))), Value.int .i64 (Ty.en (tyAt ts (↑(Int.toNat (IntKind.wrap .i64 ((↑i : Int) - 1))) : Int))), Value.int .i64 (Ty.oc (tyAt ts (↑(Int.toNat (IntKind.wrap .i64 ((↑i : Int) - 1))) : Int))), Value.int .i64 (Ty.su (tyAt ts (↑(Int.toNat (IntKind.wrap .i64 ((↑i : Int) - 1))) : Int))), Value.int .i64 (Ty.sb (tyAt ts (↑(Int.toNat (IntKind.wrap .i64 ((↑i : Int) - 1))) : Int))), Value.int .i64 (Ty.fa (tyAt ts (↑(Int.toNat (IntKind.wrap .i64 ((↑i : Int) - 1))) : Int)))])) ∧ Sp (decide (Ty.se x < Ty.se (tyAt ts (↑(Int.toNat (IntKind.wrap .i64 ((↑i : Int) - 1))) : Int)))) (Q (Value.int .i64 10)) (Q (Value.int .i64 0))) (Q (Value.int .i64 0)))))) (Sp (decide (Ty.oc x = 3)) (Sp (!decide (Ty.en x = Ty.se x)) (Q (Value.int .i64 2)) (Sp (!decide (Ty.en x = -1)) (Sp (!(decide (Ty.se x ≤ Ty.en x) && decide (Ty.en x ≤ u))) (Q (Value.int .i64 9)) (Sp (decide (0 < (↑i : Int))) ((0 ≤ IntKind.wrap .i64 ((↑i : Int) - 1) ∧ IntKind.wrap .i64 ((↑i : Int) - 1) < (↑(List.length ts) : Int)) ∧ nth ts (Int.toNat (↑(Int.toNat (IntKind.wrap .i64 ((↑i : Int) - 1))) : Int)) = some (Value.agg (Array.mk [Value.int .i64 (Ty.g (tyAt ts (↑(Int.toNat (IntKind.wrap .i64 ((↑i : Int) - 1))) : Int))), Value.int .i64 (Ty.u (tyAt ts (↑(Int.toNat (IntKind.wrap .i64 ((↑i : Int) - 1))) : Int))), Value.int .i64 (Ty.a (tyAt ts (↑(Int.toNat (IntKind.wrap .i64 ((↑i : Int) - 1))) : Int))), Value.int .i64 (Ty.y (tyAt ts (↑(Int.toNat (IntKind.wrap .i64 ((↑i : Int) - 1))) : Int))), Value.string (Ty.nm (tyAt ts (↑(Int.toNat (IntKind.wrap .i64 ((↑i : Int) - 1))) : Int))), Value.int .i64 (Ty.sn (tyAt ts (↑(Int.toNat (IntKind.wrap .i64 ((↑i : Int) - 1))) : Int))), Value.int .i64 (Ty.se (tyAt ts (↑(Int.toNat (IntKind.wrap .i64 ((↑i : Int) - 1))) : Int))), Value.int .i64 (Ty.ca (tyAt ts (↑(Int.toNat (IntKind.wrap .i64 ((↑i : Int) - 1))) : Int))), Value.int .i64 (Ty.be (tyAt ts (↑(Int.toNat (IntKind.wrap .i64 ((↑i : Int) - 1))) : Int))), Value.int .i64 (Ty.le (tyAt ts (↑(Int.toNat (IntKind.wrap .i64 ((↑i : Int) - 1))) : Int))), Value.int .i64 (Ty.ba (tyAt ts (↑(Int.toNat (IntKind.wrap .i64 ((↑i : Int) - 1))) : Int))), Value.int .i64 (Ty.en (tyAt ts (↑(Int.toNat (IntKind.wrap .i64 ((↑i : Int) - 1))) : Int))), Value.int .i64 (Ty.oc (tyAt ts (↑(Int.toNat (IntKind.wrap .i64 ((↑i : Int) - 1))) : Int))), Value.int .i64 (Ty.su (tyAt ts (↑(Int.toNat (IntKind.wrap .i64 ((↑i : Int) - 1))) : Int))), Value.int .i64 (Ty.sb (tyAt ts (↑(Int.toNat (IntKind.wrap .i64 ((↑i : Int) - 1))) : Int))), Value.int .i64 (Ty.fa (tyAt ts (↑(Int.toNat (IntKind.wrap .i64 ((↑i : Int) - 1))) : Int)))])) ∧ Sp (decide (Ty.se x < Ty.se (tyAt ts (↑(Int.toNat (IntKind.wrap .i64 ((↑i : Int) - 1))) : Int)))) (Q (Value.int .i64 10)) (Q (Value.int .i64 0))) (Q (Value.int .i64 0)))) (Sp (decide (0 < (↑i : Int))) ((0 ≤ IntKind.wrap .i64 ((↑i : Int) - 1) ∧ IntKind.wrap .i64 ((↑i : Int) - 1) < (↑(List.length ts) : Int)) ∧ nth ts (Int.toNat (↑(Int.toNat (IntKind.wrap .i64 ((↑i : Int) - 1))) : Int)) = some (Value.agg (Array.mk [Value.int .i64 (Ty.g (tyAt ts (↑(Int.toNat (IntKind.wrap .i64 ((↑i : Int) - 1))) : Int))), Value.int .i64 (Ty.u (tyAt ts (↑(Int.toNat (IntKind.wrap .i64 ((↑i : Int) - 1))) : Int))), Value.int .i64 (Ty.a (tyAt ts (↑(Int.toNat (IntKind.wrap .i64 ((↑i : Int) - 1))) : Int))), Value.int .i64 (Ty.y (tyAt ts (↑(Int.toNat (IntKind.wrap .i64 ((↑i : Int) - 1))) : Int))), Value.string (Ty.nm (tyAt ts (↑(Int.toNat (IntKind.wrap .i64 ((↑i : Int) - 1))) : Int))), Value.int .i64 (Ty.sn (tyAt ts (↑(Int.toNat (IntKind.wrap .i64 ((↑i : Int) - 1))) : Int))), Value.int .i64 (Ty.se (tyAt ts (↑(Int.toNat (IntKind.wrap .i64 ((↑i : Int) - 1))) : Int))), Value.int .i64 (Ty.ca (tyAt ts (↑(Int.toNat (IntKind.wrap .i64 ((↑i : Int) - 1))) : Int))), Value.int .i64 (Ty.be (tyAt ts (↑(Int.toNat (IntKind.wrap .i64 ((↑i : Int) - 1))) : Int))), Value.int .i64 (Ty.le (tyAt ts (↑(Int.toNat (IntKind.wrap .i64 ((↑i : Int) - 1))) : Int))), Value.int .i64 (Ty.ba (tyAt ts (↑(Int.toNat (IntKind.wrap .i64 ((↑i : Int) - 1))) : Int))), Value.int .i64 (Ty.en (tyAt ts (↑(Int.toNat (IntKind.wrap .i64 ((↑i : Int) - 1))) : Int))), Value.int .i64 (Ty.oc (tyAt ts (↑(Int.toNat (IntKind.wrap .i64 ((↑i : Int) - 1))) : Int))), Value.int .i64 (Ty.su (tyAt ts (↑(Int.toNat (IntKind.wrap .i64 ((↑i : Int) - 1))) : Int))), Value.int .i64 (Ty.sb (tyAt ts (↑(Int.toNat (IntKind.wrap .i64 ((↑i : Int) - 1))) : Int))), Value.int .i64 (Ty.fa (tyAt ts (↑(Int.toNat (IntKind.wrap .i64 ((↑i : Int) - 1))) : Int)))])) ∧ Sp (decide (Ty.se x < Ty.se (tyAt ts (↑(Int.toNat (IntKind.wrap .i64 ((↑i : Int) - 1))) : Int)))) (Q (Value.int .i64 10)) (Q (Value.int .i64 0))) (Q (Value.int .i64 0))))) (Sp (!decide (Ty.en x = -1)) (Sp (!(decide (Ty.se x ≤ Ty.en x) && decide (Ty.en x ≤ u))) (Q (Value.int .i64 9)) (Sp (decide (0 < (↑i : Int))) ((0 ≤ IntKind.wrap .i64 ((↑i : Int) - 1) ∧ IntKind.wrap .i64 ((↑i : Int) - 1) < (↑(List.length ts) : Int)) ∧ nth ts (Int.toNat (↑(Int.toNat (IntKind.wrap .i64 ((↑i : Int) - 1))) : Int)) = some (Value.agg (Array.mk [Value.int .i64 (Ty.g (tyAt ts (↑(Int.toNat (IntKind.wrap .i64 ((↑i : Int) - 1))) : Int))), Value.int .i64 (Ty.u (tyAt ts (↑(Int.toNat (IntKind.wrap .i64 ((↑i : Int) - 1))) : Int))), Value.int .i64 (Ty.a (tyAt ts (↑(Int.toNat (IntKind.wrap .i64 ((↑i : Int) - 1))) : Int))), Value.int .i64 (Ty.y (tyAt ts (↑(Int.toNat (IntKind.wrap .i64 ((↑i : Int) - 1))) : Int))), Value.string (Ty.nm (tyAt ts (↑(Int.toNat (IntKind.wrap .i64 ((↑i : Int) - 1))) : Int))), Value.int .i64 (Ty.sn (tyAt ts (↑(Int.toNat (IntKind.wrap .i64 ((↑i : Int) - 1))) : Int))), Value.int .i64 (Ty.se (tyAt ts (↑(Int.toNat (IntKind.wrap .i64 ((↑i : Int) - 1))) : Int))), Value.int .i64 (Ty.ca (tyAt ts (↑(Int.toNat (IntKind.wrap .i64 ((↑i : Int) - 1))) : Int))), Value.int .i64 (Ty.be (tyAt ts (↑(Int.toNat (IntKind.wrap .i64 ((↑i : Int) - 1))) : Int))), Value.int .i64 (Ty.le (tyAt ts (↑(Int.toNat (IntKind.wrap .i64 ((↑i : Int) - 1))) : Int))), Value.int .i64 (Ty.ba (tyAt ts (↑(Int.toNat (IntKind.wrap .i64 ((↑i : Int) - 1))) : Int))), Value.int .i64 (Ty.en (tyAt ts (↑(Int.toNat (IntKind.wrap .i64 ((↑i : Int) - 1))) : Int))), Value.int .i64 (Ty.oc (tyAt ts (↑(Int.toNat (IntKind.wrap .i64 ((↑i : Int) - 1))) : Int))), Value.int .i64 (Ty.su (tyAt ts (↑(Int.toNat (IntKind.wrap .i64 ((↑i : Int) - 1))) : Int))), Value.int .i64 (Ty.sb (tyAt ts (↑(Int.toNat (IntKind.wrap .i64 ((↑i : Int) - 1))) : Int))), Value.int .i64 (Ty.fa (tyAt ts (↑(Int.toNat (IntKind.wrap .i64 ((↑i : Int) - 1))) : Int)))])) ∧ Sp (decide (Ty.se x < Ty.se (tyAt ts (↑(Int.toNat (IntKind.wrap .i64 ((↑i : Int) - 1))) : Int)))) (Q (Value.int .i64 10)) (Q (Value.int .i64 0))) (Q (Value.int .i64 0)))) (Sp (decide (0 < (↑i : Int))) ((0 ≤ IntKind.wrap .i64 ((↑i : Int) - 1) ∧ IntKind.wrap .i64 ((↑i : Int) - 1) < (↑(List.length ts) : Int)) ∧ nth ts (Int.toNat (↑(Int.toNat (IntKind.wrap .i64 ((↑i : Int) - 1))) : Int)) = some (Value.agg (Array.mk [Value.int .i64 (Ty.g (tyAt ts (↑(Int.toNat (IntKind.wrap .i64 ((↑i : Int) - 1))) : Int))), Value.int .i64 (Ty.u (tyAt ts (↑(Int.toNat (IntKind.wrap .i64 ((↑i : Int) - 1))) : Int))), Value.int .i64 (Ty.a (tyAt ts (↑(Int.toNat (IntKind.wrap .i64 ((↑i : Int) - 1))) : Int))), Value.int .i64 (Ty.y (tyAt ts (↑(Int.toNat (IntKind.wrap .i64 ((↑i : Int) - 1))) : Int))), Value.string (Ty.nm (tyAt ts (↑(Int.toNat (IntKind.wrap .i64 ((↑i : Int) - 1))) : Int))), Value.int .i64 (Ty.sn (tyAt ts (↑(Int.toNat (IntKind.wrap .i64 ((↑i : Int) - 1))) : Int))), Value.int .i64 (Ty.se (tyAt ts (↑(Int.toNat (IntKind.wrap .i64 ((↑i : Int) - 1))) : Int))), Value.int .i64 (Ty.ca (tyAt ts (↑(Int.toNat (IntKind.wrap .i64 ((↑i : Int) - 1))) : Int))), Value.int .i64 (Ty.be (tyAt ts (↑(Int.toNat (IntKind.wrap .i64 ((↑i : Int) - 1))) : Int))), Value.int .i64 (Ty.le (tyAt ts (↑(Int.toNat (IntKind.wrap .i64 ((↑i : Int) - 1))) : Int))), Value.int .i64 (Ty.ba (tyAt ts (↑(Int.toNat (IntKind.wrap .i64 ((↑i : Int) - 1))) : Int))), Value.int .i64 (Ty.en (tyAt ts (↑(Int.toNat (IntKind.wrap .i64 ((↑i : Int) - 1))) : Int))), Value.int .i64 (Ty.oc (tyAt ts (↑(Int.toNat (IntKind.wrap .i64 ((↑i : Int) - 1))) : Int))), Value.int .i64 (Ty.su (tyAt ts (↑(Int.toNat (IntKind.wrap .i64 ((↑i : Int) - 1))) : Int))), Value.int .i64 (Ty.sb (tyAt ts (↑(Int.toNat (IntKind.wrap .i64 ((↑i : Int) - 1))) : Int))), Value.int .i64 (Ty.fa (tyAt ts (↑(Int.toNat (IntKind.wrap .i64 ((↑i : Int) - 1))) : Int)))])) ∧ Sp (decide (Ty.se x < Ty.se (tyAt ts (↑(Int.toNat (IntKind.wrap .i64 ((↑i : Int) - 1))) : Int)))) (Q (Value.int .i64 10)) (Q (Value.int .i64 0))) (Q (Value.int .i64 0)))))))) (Sp (!decide (Ty.en x = -1) == decide (Ty.oc x = 4)) (Q (Value.int .i64 2)) (Sp (decide (Ty.oc x = 1)) (Sp (!decide (Ty.en x = Ty.ba x)) (Q (Value.int .i64 2)) (Sp (decide (Ty.oc x = 3)) (Sp (!decide (Ty.en x = Ty.se x)) (Q (Value.int .i64 2)) (Sp (!decide (Ty.en x = -1)) (Sp (!(decide (Ty.se x ≤ Ty.en x) && decide (Ty.en x ≤ u))) (Q (Value.int .i64 9)) (Sp (decide (0 < (↑i : Int))) ((0 ≤ IntKind.wrap .i64 ((↑i : Int) - 1) ∧ IntKind.wrap .i64 ((↑i : Int) - 1) < (↑(List.length ts) : Int)) ∧ nth ts (Int.toNat (↑(Int.toNat (IntKind.wrap .i64 ((↑i : Int) - 1))) : Int)) = some (Value.agg (Array.mk [Value.int .i64 (Ty.g (tyAt ts (↑(Int.toNat (IntKind.wrap .i64 ((↑i : Int) - 1))) : Int))), Value.int .i64 (Ty.u (tyAt ts (↑(Int.toNat (IntKind.wrap .i64 ((↑i : Int) - 1))) : Int))), Value.int .i64 (Ty.a (tyAt ts (↑(Int.toNat (IntKind.wrap .i64 ((↑i : Int) - 1))) : Int))), Value.int .i64 (Ty.y (tyAt ts (↑(Int.toNat (IntKind.wrap .i64 ((↑i : Int) - 1))) : Int))), Value.string (Ty.nm (tyAt ts (↑(Int.toNat (IntKind.wrap .i64 ((↑i : Int) - 1))) : Int))), Value.int .i64 (Ty.sn (tyAt ts (↑(Int.toNat (IntKind.wrap .i64 ((↑i : Int) - 1))) : Int))), Value.int .i64 (Ty.se (tyAt ts (↑(Int.toNat (IntKind.wrap .i64 ((↑i : Int) - 1))) : Int))), Value.int .i64 (Ty.ca (tyAt ts (↑(Int.toNat (IntKind.wrap .i64 ((↑i : Int) - 1))) : Int))), Value.int .i64 (Ty.be (tyAt ts (↑(Int.toNat (IntKind.wrap .i64 ((↑i : Int) - 1))) : Int))), Value.int .i64 (Ty.le (tyAt ts (↑(Int.toNat (IntKind.wrap .i64 ((↑i : Int) - 1))) : Int))), Value.int .i64 (Ty.ba (tyAt ts (↑(Int.toNat (IntKind.wrap .i64 ((↑i : Int) - 1))) : Int))), Value.int .i64 (Ty.en (tyAt ts (↑(Int.toNat (IntKind.wrap .i64 ((↑i : Int) - 1))) : Int))), Value.int .i64 (Ty.oc (tyAt ts (↑(Int.toNat (IntKind.wrap .i64 ((↑i : Int) - 1))) : Int))), Value.int .i64 (Ty.su (tyAt ts (↑(Int.toNat (IntKind.wrap .i64 ((↑i : Int) - 1))) : Int))), Value.int .i64 (Ty.sb (tyAt ts (↑(Int.toNat (IntKind.wrap .i64 ((↑i : Int) - 1))) : Int))), Value.int .i64 (Ty.fa (tyAt ts (↑(Int.toNat (IntKind.wrap .i64 ((↑i : Int) - 1))) : Int)))])) ∧ Sp (decide (Ty.se x < Ty.se (tyAt ts (↑(Int.toNat (IntKind.wrap .i64 ((↑i : Int) - 1))) : Int)))) (Q (Value.int .i64 10)) (Q (Value.int .i64 0))) (Q (Value.int .i64 0)))) (Sp (decide (0 < (↑i : Int))) ((0 ≤ IntKind.wrap .i64 ((↑i : Int) - 1) ∧ IntKind.wrap .i64 ((↑i : Int) - 1) < (↑(List.length ts) : Int)) ∧ nth ts (Int.toNat (↑(Int.toNat (IntKind.wrap .i64 ((↑i : Int) - 1))) : Int)) = some (Value.agg (Array.mk [Value.int .i64 (Ty.g (tyAt ts (↑(Int.toNat (IntKind.wrap .i64 ((↑i : Int) - 1))) : Int))), Value.int .i64 (Ty.u (tyAt ts (↑(Int.toNat (IntKind.wrap .i64 ((↑i : Int) - 1))) : Int))), Value.int .i64 (Ty.a (tyAt ts (↑(Int.toNat (IntKind.wrap .i64 ((↑i : Int) - 1))) : Int))), Value.int .i64 (Ty.y (tyAt ts (↑(Int.toNat (IntKind.wrap .i64 ((↑i : Int) - 1))) : Int))), Value.string (Ty.nm (tyAt ts (↑(Int.toNat (IntKind.wrap .i64 ((↑i : Int) - 1))) : Int))), Value.int .i64 (Ty.sn (tyAt ts (↑(Int.toNat (IntKind.wrap .i64 ((↑i : Int) - 1))) : Int))), Value.int .i64 (Ty.se (tyAt ts (↑(Int.toNat (IntKind.wrap .i64 ((↑i : Int) - 1))) : Int))), Value.int .i64 (Ty.ca (tyAt ts (↑(Int.toNat (IntKind.wrap .i64 ((↑i : Int) - 1))) : Int))), Value.int .i64 (Ty.be (tyAt ts (↑(Int.toNat (IntKind.wrap .i64 ((↑i : Int) - 1))) : Int))), Value.int .i64 (Ty.le (tyAt ts (↑(Int.toNat (IntKind.wrap .i64 ((↑i : Int) - 1))) : Int))), Value.int .i64 (Ty.ba (tyAt ts (↑(Int.toNat (IntKind.wrap .i64 ((↑i : Int) - 1))) : Int))), Value.int .i64 (Ty.en (tyAt ts (↑(Int.toNat (IntKind.wrap .i64 ((↑i : Int) - 1))) : Int))), Value.int .i64 (Ty.oc (tyAt ts (↑(Int.toNat (IntKind.wrap .i64 ((↑i : Int) - 1))) : Int))), Value.int .i64 (Ty.su (tyAt ts (↑(Int.toNat (IntKind.wrap .i64 ((↑i : Int) - 1))) : Int))), Value.int .i64 (Ty.sb (tyAt ts (↑(Int.toNat (IntKind.wrap .i64 ((↑i : Int) - 1))) : Int))), Value.int .i64 (Ty.fa (tyAt ts (↑(Int.toNat (IntKind.wrap .i64 ((↑i : Int) - 1))) : Int)))])) ∧ Sp (decide (Ty.se x < Ty.se (tyAt ts (↑(Int.toNat (IntKind.wrap .i64 ((↑i : Int) - 1))) : Int)))) (Q (Value.int .i64 10)) (Q (Value.int .i64 0))) (Q (Value.int .i64 0))))) (Sp (!decide (Ty.en x = -1)) (Sp (!(decide (Ty.se x ≤ Ty.en x) && decide (Ty.en x ≤ u))) (Q (Value.int .i64 9)) (Sp (decide (0 < (↑i : Int))) ((0 ≤ IntKind.wrap .i64 ((↑i : Int) - 1) ∧ IntKind.wrap .i64 ((↑i : Int) - 1) < (↑(List.length ts) : Int)) ∧ nth ts (Int.toNat (↑(Int.toNat (IntKind.wrap .i64 ((↑i : Int) - 1))) : Int)) = some (Value.agg (Array.mk [Value.int .i64 (Ty.g (tyAt ts (↑(Int.toNat (IntKind.wrap .i64 ((↑i : Int) - 1))) : Int))), Value.int .i64 (Ty.u (tyAt ts (↑(Int.toNat (IntKind.wrap .i64 ((↑i : Int) - 1))) : Int))), Value.int .i64 (Ty.a (tyAt ts (↑(Int.toNat (IntKind.wrap .i64 ((↑i : Int) - 1))) : Int))), Value.int .i64 (Ty.y (tyAt ts (↑(Int.toNat (IntKind.wrap .i64 ((↑i : Int) - 1))) : Int))), Value.string (Ty.nm (tyAt ts (↑(Int.toNat (IntKind.wrap .i64 ((↑i : Int) - 1))) : Int))), Value.int .i64 (Ty.sn (tyAt ts (↑(Int.toNat (IntKind.wrap .i64 ((↑i : Int) - 1))) : Int))), Value.int .i64 (Ty.se (tyAt ts (↑(Int.toNat (IntKind.wrap .i64 ((↑i : Int) - 1))) : Int))), Value.int .i64 (Ty.ca (tyAt ts (↑(Int.toNat (IntKind.wrap .i64 ((↑i : Int) - 1))) : Int))), Value.int .i64 (Ty.be (tyAt ts (↑(Int.toNat (IntKind.wrap .i64 ((↑i : Int) - 1))) : Int))), Value.int .i64 (Ty.le (tyAt ts (↑(Int.toNat (IntKind.wrap .i64 ((↑i : Int) - 1))) : Int))), Value.int .i64 (Ty.ba (tyAt ts (↑(Int.toNat (IntKind.wrap .i64 ((↑i : Int) - 1))) : Int))), Value.int .i64 (Ty.en (tyAt ts (↑(Int.toNat (IntKind.wrap .i64 ((↑i : Int) - 1))) : Int))), Value.int .i64 (Ty.oc (tyAt ts (↑(Int.toNat (IntKind.wrap .i64 ((↑i : Int) - 1))) : Int))), Value.int .i64 (Ty.su (tyAt ts (↑(Int.toNat (IntKind.wrap .i64 ((↑i : Int) - 1))) : Int))), Value.int .i64 (Ty.sb (tyAt ts (↑(Int.toNat (IntKind.wrap .i64 ((↑i : Int) - 1))) : Int))), Value.int .i64 (Ty.fa (tyAt ts (↑(Int.toNat (IntKind.wrap .i64 ((↑i : Int) - 1))) : Int)))])) ∧ Sp (decide (Ty.se x < Ty.se (tyAt ts (↑(Int.toNat (IntKind.wrap .i64 ((↑i : Int) - 1))) : Int)))) (Q (Value.int .i64 10)) (Q (Value.int .i64 0))) (Q (Value.int .i64 0)))) (Sp (decide (0 < (↑i : Int))) ((0 ≤ IntKind.wrap .i64 ((↑i : Int) - 1) ∧ IntKind.wrap .i64 ((↑i : Int) - 1) < (↑(List.length ts) : Int)) ∧ nth ts (Int.toNat (↑(Int.toNat (IntKind.wrap .i64 ((↑i : Int) - 1))) : Int)) = some (Value.agg (Array.mk [Value.int .i64 (Ty.g (tyAt ts (↑(Int.toNat (IntKind.wrap .i64 ((↑i : Int) - 1))) : Int))), Value.int .i64 (Ty.u (tyAt ts (↑(Int.toNat (IntKind.wrap .i64 ((↑i : Int) - 1))) : Int))), Value.int .i64 (Ty.a (tyAt ts (↑(Int.toNat (IntKind.wrap .i64 ((↑i : Int) - 1))) : Int))), Value.int .i64 (Ty.y (tyAt ts (↑(Int.toNat (IntKind.wrap .i64 ((↑i : Int) - 1))) : Int))), Value.string (Ty.nm (tyAt ts (↑(Int.toNat (IntKind.wrap .i64 ((↑i : Int) - 1))) : Int))), Value.int .i64 (Ty.sn (tyAt ts (↑(Int.toNat (IntKind.wrap .i64 ((↑i : Int) - 1))) : Int))), Value.int .i64 (Ty.se (tyAt ts (↑(Int.toNat (IntKind.wrap .i64 ((↑i : Int) - 1))) : Int))), Value.int .i64 (Ty.ca (tyAt ts (↑(Int.toNat (IntKind.wrap .i64 ((↑i : Int) - 1))) : Int))), Value.int .i64 (Ty.be (tyAt ts (↑(Int.toNat (IntKind.wrap .i64 ((↑i : Int) - 1))) : Int))), Value.int .i64 (Ty.le (tyAt ts (↑(Int.toNat (IntKind.wrap .i64 ((↑i : Int) - 1))) : Int))), Value.int .i64 (Ty.ba (tyAt ts (↑(Int.toNat (IntKind.wrap .i64 ((↑i : Int) - 1))) : Int))), Value.int .i64 (Ty.en (tyAt ts (↑(Int.toNat (IntKind.wrap .i64 ((↑i : Int) - 1))) : Int))), Value.int .i64 (Ty.oc (tyAt ts (↑(Int.toNat (IntKind.wrap .i64 ((↑i : Int) - 1))) : Int))), Value.int .i64 (Ty.su (tyAt ts (↑(Int.toNat (IntKind.wrap .i64 ((↑i : Int) - 1))) : Int))), Value.int .i64 (Ty.sb (tyAt ts (↑(Int.toNat (IntKind.wrap .i64 ((↑i : Int) - 1))) : Int))), Value.int .i64 (Ty.fa (tyAt ts (↑(Int.toNat (IntKind.wrap .i64 ((↑i : Int) - 1))) : Int)))])) ∧ Sp (decide (Ty.se x < Ty.se (tyAt ts (↑(Int.toNat (IntKind.wrap .i64 ((↑i : Int) - 1))) : Int)))) (Q (Value.int .i64 10)) (Q (Value.int .i64 0))) (Q (Value.int .i64 0)))))) (Sp (decide (Ty.oc x = 3)) (Sp (!decide (Ty.en x = Ty.se x)) (Q (Value.int .i64 2)) (Sp (!decide (Ty.en x = -1)) (Sp (!(decide (Ty.se x ≤ Ty.en x) && decide (Ty.en x ≤ u))) (Q (Value.int .i64 9)) (Sp (decide (0 < (↑i : Int))) ((0 ≤ IntKind.wrap .i64 ((↑i : Int) - 1) ∧ IntKind.wrap .i64 ((↑i : Int) - 1) < (↑(List.length ts) : Int)) ∧ nth ts (Int.toNat (↑(Int.toNat (IntKind.wrap .i64 ((↑i : Int) - 1))) : Int)) = some (Value.agg (Array.mk [Value.int .i64 (Ty.g (tyAt ts (↑(Int.toNat (IntKind.wrap .i64 ((↑i : Int) - 1))) : Int))), Value.int .i64 (Ty.u (tyAt ts (↑(Int.toNat (IntKind.wrap .i64 ((↑i : Int) - 1))) : Int))), Value.int .i64 (Ty.a (tyAt ts (↑(Int.toNat (IntKind.wrap .i64 ((↑i : Int) - 1))) : Int))), Value.int .i64 (Ty.y (tyAt ts (↑(Int.toNat (IntKind.wrap .i64 ((↑i : Int) - 1))) : Int))), Value.string (Ty.nm (tyAt ts (↑(Int.toNat (IntKind.wrap .i64 ((↑i : Int) - 1))) : Int))), Value.int .i64 (Ty.sn (tyAt ts (↑(Int.toNat (IntKind.wrap .i64 ((↑i : Int) - 1))) : Int))), Value.int .i64 (Ty.se (tyAt ts (↑(Int.toNat (IntKind.wrap .i64 ((↑i : Int) - 1))) : Int))), Value.int .i64 (Ty.ca (tyAt ts (↑(Int.toNat (IntKind.wrap .i64 ((↑i : Int) - 1))) : Int))), Value.int .i64 (Ty.be (tyAt ts (↑(Int.toNat (IntKind.wrap .i64 ((↑i : Int) - 1))) : Int))), Value.int .i64 (Ty.le (tyAt ts (↑(Int.toNat (IntKind.wrap .i64 ((↑i : Int) - 1))) : Int))), Value.int .i64 (Ty.ba (tyAt ts (↑(Int.toNat (IntKind.wrap .i64 ((↑i : Int) - 1))) : Int))), Value.int .i64 (Ty.en (tyAt ts (↑(Int.toNat (IntKind.wrap .i64 ((↑i : Int) - 1))) : Int))), Value.int .i64 (Ty.oc (tyAt ts (↑(Int.toNat (IntKind.wrap .i64 ((↑i : Int) - 1))) : Int))), Value.int .i64 (Ty.su (tyAt ts (↑(Int.toNat (IntKind.wrap .i64 ((↑i : Int) - 1))) : Int))), Value.int .i64 (Ty.sb (tyAt ts (↑(Int.toNat (IntKind.wrap .i64 ((↑i : Int) - 1))) : Int))), Value.int .i64 (Ty.fa (tyAt ts (↑(Int.toNat (IntKind.wrap .i64 ((↑i : Int) - 1))) : Int)))])) ∧ Sp (decide (Ty.se x < Ty.se (tyAt ts (↑(Int.toNat (IntKind.wrap .i64 ((↑i : Int) - 1))) : Int)))) (Q (Value.int .i64 10)) (Q (Value.int .i64 0))) (Q (Value.int .i64 0)))) (Sp (decide (0 < (↑i : Int))) ((0 ≤ IntKind.wrap .i64 ((↑i : Int) - 1) ∧ IntKind.wrap .i64 ((↑i : Int) - 1) < (↑(List.length ts) : Int)) ∧ nth ts (Int.toNat (↑(Int.toNat (IntKind.wrap .i64 ((↑i : Int) - 1))) : Int)) = some (Value.agg (Array.mk [Value.int .i64 (Ty.g (tyAt ts (↑(Int.toNat (IntKind.wrap .i64 ((↑i : Int) - 1))) : Int))), Value.int .i64 (Ty.u (tyAt ts (↑(Int.toNat (IntKind.wrap .i64 ((↑i : Int) - 1))) : Int))), Value.int .i64 (Ty.a (tyAt ts (↑(Int.toNat (IntKind.wrap .i64 ((↑i : Int) - 1))) : Int))), Value.int .i64 (Ty.y (tyAt ts (↑(Int.toNat (IntKind.wrap .i64 ((↑i : Int) - 1))) : Int))), Value.string (Ty.nm (tyAt ts (↑(Int.toNat (IntKind.wrap .i64 ((↑i : Int) - 1))) : Int))), Value.int .i64 (Ty.sn (tyAt ts (↑(Int.toNat (IntKind.wrap .i64 ((↑i : Int) - 1))) : Int))), Value.int .i64 (Ty.se (tyAt ts (↑(Int.toNat (IntKind.wrap .i64 ((↑i : Int) - 1))) : Int))), Value.int .i64 (Ty.ca (tyAt ts (↑(Int.toNat (IntKind.wrap .i64 ((↑i : Int) - 1))) : Int))), Value.int .i64 (Ty.be (tyAt ts (↑(Int.toNat (IntKind.wrap .i64 ((↑i : Int) - 1))) : Int))), Value.int .i64 (Ty.le (tyAt ts (↑(Int.toNat (IntKind.wrap .i64 ((↑i : Int) - 1))) : Int))), Value.int .i64 (Ty.ba (tyAt ts (↑(Int.toNat (IntKind.wrap .i64 ((↑i : Int) - 1))) : Int))), Value.int .i64 (Ty.en (tyAt ts (↑(Int.toNat (IntKind.wrap .i64 ((↑i : Int) - 1))) : Int))), Value.int .i64 (Ty.oc (tyAt ts (↑(Int.toNat (IntKind.wrap .i64 ((↑i : Int) - 1))) : Int))), Value.int .i64 (Ty.su (tyAt ts (↑(Int.toNat (IntKind.wrap .i64 ((↑i : Int) - 1))) : Int))), Value.int .i64 (Ty.sb (tyAt ts (↑(Int.toNat (IntKind.wrap .i64 ((↑i : Int) - 1))) : Int))), Value.int .i64 (Ty.fa (tyAt ts (↑(Int.toNat (IntKind.wrap .i64 ((↑i : Int) - 1))) : Int)))])) ∧ Sp (decide (Ty.se x < Ty.se (tyAt ts (↑(Int.toNat (IntKind.wrap .i64 ((↑i : Int) - 1))) : Int)))) (Q (Value.int .i64 10)) (Q (Value.int .i64 0))) (Q (Value.int .i64 0))))) (Sp (!decide (Ty.en x = -1)) (Sp (!(decide (Ty.se x ≤ Ty.en x) && decide (Ty.en x ≤ u))) (Q (Value.int .i64 9)) (Sp (decide (0 < (↑i : Int))) ((0 ≤ IntKind.wrap .i64 ((↑i : Int) - 1) ∧ IntKind.wrap .i64 ((↑i : Int) - 1) < (↑(List.length ts) : Int)) ∧ nth ts (Int.toNat (↑(Int.toNat (IntKind.wrap .i64 ((↑i : Int) - 1))) : Int)) = some (Value.agg (Array.mk [Value.int .i64 (Ty.g (tyAt ts (↑(Int.toNat (IntKind.wrap .i64 ((↑i : Int) - 1))) : Int))), Value.int .i64 (Ty.u (tyAt ts (↑(Int.toNat (IntKind.wrap .i64 ((↑i : Int) - 1))) : Int))), Value.int .i64 (Ty.a (tyAt ts (↑(Int.toNat (IntKind.wrap .i64 ((↑i : Int) - 1))) : Int))), Value.int .i64 (Ty.y (tyAt ts (↑(Int.toNat (IntKind.wrap .i64 ((↑i : Int) - 1))) : Int))), Value.string (Ty.nm (tyAt ts (↑(Int.toNat (IntKind.wrap .i64 ((↑i : Int) - 1))) : Int))), Value.int .i64 (Ty.sn (tyAt ts (↑(Int.toNat (IntKind.wrap .i64 ((↑i : Int) - 1))) : Int))), Value.int .i64 (Ty.se (tyAt ts (↑(Int.toNat (IntKind.wrap .i64 ((↑i : Int) - 1))) : Int))), Value.int .i64 (Ty.ca (tyAt ts (↑(Int.toNat (IntKind.wrap .i64 ((↑i : Int) - 1))) : Int))), Value.int .i64 (Ty.be (tyAt ts (↑(Int.toNat (IntKind.wrap .i64 ((↑i : Int) - 1))) : Int))), Value.int .i64 (Ty.le (tyAt ts (↑(Int.toNat (IntKind.wrap .i64 ((↑i : Int) - 1))) : Int))), Value.int .i64 (Ty.ba (tyAt ts (↑(Int.toNat (IntKind.wrap .i64 ((↑i : Int) - 1))) : Int))), Value.int .i64 (Ty.en (tyAt ts (↑(Int.toNat (IntKind.wrap .i64 ((↑i : Int) - 1))) : Int))), Value.int .i64 (Ty.oc (tyAt ts (↑(Int.toNat (IntKind.wrap .i64 ((↑i : Int) - 1))) : Int))), Value.int .i64 (Ty.su (tyAt ts (↑(Int.toNat (IntKind.wrap .i64 ((↑i : Int) - 1))) : Int))), Value.int .i64 (Ty.sb (tyAt ts (↑(Int.toNat (IntKind.wrap .i64 ((↑i : Int) - 1))) : Int))), Value.int .i64 (Ty.fa (tyAt ts (↑(Int.toNat (IntKind.wrap .i64 ((↑i : Int) - 1))) : Int)))])) ∧ Sp (decide (Ty.se x < Ty.se (tyAt ts (↑(Int.toNat (IntKind.wrap .i64 ((↑i : Int) - 1))) : Int)))) (Q (Value.int .i64 10)) (Q (Value.int .i64 0))) (Q (Value.int .i64 0)))) (Sp (decide (0 < (↑i : Int))) ((0 ≤ IntKind.wrap .i64 ((↑i : Int) - 1) ∧ IntKind.wrap .i64 ((↑i : Int) - 1) < (↑(List.length ts) : Int)) ∧ nth ts (Int.toNat (↑(Int.toNat (IntKind.wrap .i64 ((↑i : Int) - 1))) : Int)) = some (Value.agg (Array.mk [Value.int .i64 (Ty.g (tyAt ts (↑(Int.toNat (IntKind.wrap .i64 ((↑i : Int) - 1))) : Int))), Value.int .i64 (Ty.u (tyAt ts (↑(Int.toNat (IntKind.wrap .i64 ((↑i : Int) - 1))) : Int))), Value.int .i64 (Ty.a (tyAt ts (↑(Int.toNat (IntKind.wrap .i64 ((↑i : Int) - 1))) : Int))), Value.int .i64 (Ty.y (tyAt ts (↑(Int.toNat (IntKind.wrap .i64 ((↑i : Int) - 1))) : Int))), Value.string (Ty.nm (tyAt ts (↑(Int.toNat (IntKind.wrap .i64 ((↑i : Int) - 1))) : Int))), Value.int .i64 (Ty.sn (tyAt ts (↑(Int.toNat (IntKind.wrap .i64 ((↑i : Int) - 1))) : Int))), Value.int .i64 (Ty.se (tyAt ts (↑(Int.toNat (IntKind.wrap .i64 ((↑i : Int) - 1))) : Int))), Value.int .i64 (Ty.ca (tyAt ts (↑(Int.toNat (IntKind.wrap .i64 ((↑i : Int) - 1))) : Int))), Value.int .i64 (Ty.be (tyAt ts (↑(Int.toNat (IntKind.wrap .i64 ((↑i : Int) - 1))) : Int))), Value.int .i64 (Ty.le (tyAt ts (↑(Int.toNat (IntKind.wrap .i64 ((↑i : Int) - 1))) : Int))), Value.int .i64 (Ty.ba (tyAt ts (↑(Int.toNat (IntKind.wrap .i64 ((↑i : Int) - 1))) : Int))), Value.int .i64 (Ty.en (tyAt ts (↑(Int.toNat (IntKind.wrap .i64 ((↑i : Int) - 1))) : Int))), Value.int .i64 (Ty.oc (tyAt ts (↑(Int.toNat (IntKind.wrap .i64 ((↑i : Int) - 1))) : Int))), Value.int .i64 (Ty.su (tyAt ts (↑(Int.toNat (IntKind.wrap .i64 ((↑i : Int) - 1))) : Int))), Value.int .i64 (Ty.sb (tyAt ts (↑(Int.toNat (IntKind.wrap .i64 ((↑i : Int) - 1))) : Int))), Value.int .i64 (Ty.fa (tyAt ts (↑(Int.toNat (IntKind.wrap .i64 ((↑i : Int) - 1))) : Int)))])) ∧ Sp (decide (Ty.se x < Ty.se (tyAt ts (↑(Int.toNat (IntKind.wrap .i64 ((↑i : Int) - 1))) : Int)))) (Q (Value.int .i64 10)) (Q (Value.int .i64 0))) (Q (Value.int .i64 0)))))))) := by kernel_rfl
theorem Sp_true {p q : Prop} : Sp true p q = p := rfl
theorem Sp_false {p q : Prop} : Sp false p q = q := rfl
theorem Qof {Q : Value → Prop} {a b : Int} (h : Q (.int .i64 a)) (e : a = b) : Q (.int .i64 b) := e ▸ h
def lastE (x : Ty) (u : Int) (b : Bool) : Int := bif ordB x u then (bif frmB x then 2 else bif endB x u then 9 else bif b then 10 else 0) else 10
def bkB (ts : List Ty) (i : Nat) (x : Ty) : Bool := decide (0 < i) && decide (x.se < (tyAt (ts.map tyv) ((i - 1 : Nat) : Int)).se)
theorem TF_end (Q : Value → Prop) (QA : KV) (again : KF) (u : Int) (ts : List Ty) (vs : List Vi) (i : Nat) (x : Ty) (la : Int) (hlt : i < ts.length) (ht : ts.length ≤ 20000) (ho : ordB x u = true) (hQ : Q (.int .i64 (lastE x u (bkB ts i x)))) : jTS4 Q QA again u (ts.map tyv) (vs.map viv) i x la := by
  refine (jTS4_nf Q QA again u _ _ i x la).mpr ?_
  unfold lastE at hQ
  rw [ho] at hQ
  simp only [cond_true] at hQ
  by_cases hi : 0 < i
  · have e1 : decide ((0 : Int) < (i : Int)) = true := by simp; omega
    have e2 : decide (0 < i) = true := by simp; omega
    have hlt1 : i - 1 < ts.length := by omega
    unfold bkB at hQ
    rw [ty_at hlt1, e2] at hQ
    simp only [Bool.true_and] at hQ
    simp only [e1, Sp_true, pred_in hi (show i < 9223372036854775807 by omega), Int.toNat_natCast, ty_at hlt1]
    repeat' (first | refine Sp.intro (fun h => ?_) (fun h => ?_) | refine And.intro (ty_b hlt1) (And.intro (ty_nth hlt1) ?_))
    all_goals
      refine Qof hQ ?_
      clear hQ
      simp only [Bool.not_eq_true', Bool.not_eq_false'] at *
      simp_all only [frmB, endB, isIn, bne, Bool.true_and, Bool.false_and, Bool.and_false, Bool.and_true, Bool.and_self, Bool.true_or, Bool.false_or, Bool.or_false, Bool.or_true, Bool.not_true, Bool.not_false, cond_true, cond_false]
  · have e1 : decide ((0 : Int) < (i : Int)) = false := by simp; omega
    have e2 : decide (0 < i) = false := by simp; omega
    unfold bkB at hQ
    rw [e2] at hQ
    simp only [Bool.false_and, cond_false] at hQ
    simp only [e1, Sp_false]
    repeat' (refine Sp.intro (fun h => ?_) (fun h => ?_))
    all_goals
      refine Qof hQ ?_
      clear hQ
      simp only [Bool.not_eq_true', Bool.not_eq_false'] at *
      simp_all only [frmB, endB, isIn, bne, Bool.true_and, Bool.false_and, Bool.and_false, Bool.and_true, Bool.and_self, Bool.true_or, Bool.false_or, Bool.or_false, Bool.or_true, Bool.not_true, Bool.not_false, cond_true, cond_false]
theorem lastE_bad {x : Ty} {u : Int} {b : Bool} (h : false = ordB x u) : lastE x u b = 10 := by simp [lastE, ← h]
theorem ordF_skip {u t la : Int} {r : List Int} {b : Bool} (h : decide (t = -1) = true) (he : ordF u (t :: r) la = b) : ordF u r la = b := by simpa only [ordF, h, cond_true] using he
theorem ordF_lo {u t la : Int} {r : List Int} {b : Bool} (h : decide (t = -1) = false) (h2 : decide (t < la) = true) (he : ordF u (t :: r) la = b) : false = b := by simpa only [ordF, h, h2, Bool.true_or, cond_true, cond_false] using he
theorem ordF_hi {u t la : Int} {r : List Int} {b : Bool} (h : decide (t = -1) = false) (h2 : decide (t < la) = false) (h3 : decide (u < t) = true) (he : ordF u (t :: r) la = b) : false = b := by simpa only [ordF, h, h2, h3, Bool.false_or, cond_true, cond_false] using he
theorem ordF_go {u t la : Int} {r : List Int} {b : Bool} (h : decide (t = -1) = false) (h2 : decide (t < la) = false) (h3 : decide (u < t) = false) (he : ordF u (t :: r) la = b) : ordF u r t = b := by simpa only [ordF, h, h2, h3, Bool.false_or, cond_false] using he
theorem TF_loop (Q : Value → Prop) (QA : KV) (u : Int) (ts : List Ty) (vs : List Vi) (i : Nat) (x : Ty) (hlt : i < ts.length) (ht : ts.length ≤ 20000) (hQ : Q (.int .i64 (lastE x u (bkB ts i x)))) :
    LAt XF 1 (Func.ntmps Proofs.Tryz.f36) (bodyOf Proofs.Tryz.f36) [1, 1, 1, 1, 0, 1, 0] (finK XF.E (Proofs.Tryz.f36.results).toList (leafK Q QA)) (frF i x.se 0) (hX u (ts.map tyv) (vs.map viv) x) := by
  refine LAt.stepA XF_ok [] [1, 2, 5, 6, 74, 75, 76] (by kernel_rfl) (fun m F A => A = hX u (ts.map tyv) (vs.map viv) x ∧ ∃ la : Int, (m = 4 ∧ F = frF i la 0 ∧ ordF u [x.ca, x.be, x.le, x.ba] la = ordB x u) ∨ (m = 3 ∧ F = frF i la 1 ∧ ordF u [x.be, x.le, x.ba] la = ordB x u) ∨ (m = 2 ∧ F = frF i la 2 ∧ ordF u [x.le, x.ba] la = ordB x u) ∨ (m = 1 ∧ F = frF i la 3 ∧ ordF u [x.ba] la = ordB x u) ∨ (m = 0 ∧ F = frF i la 4 ∧ ordF u [] la = ordB x u)) ?_ (k := 4) ⟨rfl, x.se, .inl ⟨rfl, rfl, rfl⟩⟩
  rintro m F A ⟨rfl, la, ⟨rfl, rfl, he⟩ | ⟨rfl, rfl, he⟩ | ⟨rfl, rfl, he⟩ | ⟨rfl, rfl, he⟩ | ⟨rfl, rfl, he⟩⟩
  · refine (jTS0_nf _ _ _ u _ _ i x la).mpr ?_
    exact Sp.intro (fun h => ⟨HF_tys ts, HF_vis vs, 3, by omega, rfl, la, .inr (.inl ⟨rfl, rfl, ordF_skip h he⟩)⟩) (fun h => Sp.intro (fun h2 => Qof hQ (lastE_bad (ordF_lo h h2 he))) (fun h2 => Sp.intro (fun h3 => Qof hQ (lastE_bad (ordF_hi h h2 h3 he))) (fun h3 => ⟨HF_tys ts, HF_vis vs, 3, by omega, rfl, x.ca, .inr (.inl ⟨rfl, rfl, ordF_go h h2 h3 he⟩)⟩)))
  · refine (jTS1_nf _ _ _ u _ _ i x la).mpr ?_
    exact Sp.intro (fun h => ⟨HF_tys ts, HF_vis vs, 2, by omega, rfl, la, .inr (.inr (.inl ⟨rfl, rfl, ordF_skip h he⟩))⟩) (fun h => Sp.intro (fun h2 => Qof hQ (lastE_bad (ordF_lo h h2 he))) (fun h2 => Sp.intro (fun h3 => Qof hQ (lastE_bad (ordF_hi h h2 h3 he))) (fun h3 => ⟨HF_tys ts, HF_vis vs, 2, by omega, rfl, x.be, .inr (.inr (.inl ⟨rfl, rfl, ordF_go h h2 h3 he⟩))⟩)))
  · refine (jTS2_nf _ _ _ u _ _ i x la).mpr ?_
    exact Sp.intro (fun h => ⟨HF_tys ts, HF_vis vs, 1, by omega, rfl, la, .inr (.inr (.inr (.inl ⟨rfl, rfl, ordF_skip h he⟩)))⟩) (fun h => Sp.intro (fun h2 => Qof hQ (lastE_bad (ordF_lo h h2 he))) (fun h2 => Sp.intro (fun h3 => Qof hQ (lastE_bad (ordF_hi h h2 h3 he))) (fun h3 => ⟨HF_tys ts, HF_vis vs, 1, by omega, rfl, x.le, .inr (.inr (.inr (.inl ⟨rfl, rfl, ordF_go h h2 h3 he⟩)))⟩)))
  · refine (jTS3_nf _ _ _ u _ _ i x la).mpr ?_
    exact Sp.intro (fun h => ⟨HF_tys ts, HF_vis vs, 0, by omega, rfl, la, .inr (.inr (.inr (.inr ⟨rfl, rfl, ordF_skip h he⟩)))⟩) (fun h => Sp.intro (fun h2 => Qof hQ (lastE_bad (ordF_lo h h2 he))) (fun h2 => Sp.intro (fun h3 => Qof hQ (lastE_bad (ordF_hi h h2 h3 he))) (fun h3 => ⟨HF_tys ts, HF_vis vs, 0, by omega, rfl, x.ba, .inr (.inr (.inr (.inr ⟨rfl, rfl, ordF_go h h2 h3 he⟩)))⟩)))
  · exact TF_end Q QA _ u ts vs i x la hlt ht he.symm hQ
theorem TF_walk (u : Int) (ts : List Ty) (vs : List Vi) (i : Nat) (hlt : i < ts.length) (ht : ts.length ≤ 20000) : Walk env Proofs.Tryz.f36 [logv u (ts.map tyv) (vs.map viv), .int .i64 i] (.int .i64 (bif rngB ts[i] u then lastE ts[i] u (bkB ts i ts[i]) else 9)) := by
  refine sxFn_plain XF_ok (d := 1) (HFi _ _) ((jTF_nf _ _ u _ _ i).mpr ?_)
  refine ⟨ty_b hlt, ty_c hlt, ?_⟩
  simp only [Int.toNat_natCast, ty_at hlt]
  repeat' (refine Sp.intro (fun h => ?_) (fun h => ?_))
  all_goals simp only [Bool.not_eq_true', Bool.not_eq_false'] at *
  all_goals first
    | (refine congrArg (Value.int .i64) ?_
       simp only [rngB, isIn, *, Bool.true_and, Bool.false_and, Bool.and_false, cond_false]; done)
    | (refine ⟨HF_tys ts, HF_vis vs, TF_loop _ _ u ts vs i ts[i] hlt ht ?_⟩
       refine congrArg (Value.int .i64) ?_
       simp only [rngB, isIn, *, Bool.true_and, cond_true])
end
end Go.T9
set_option maxRecDepth 1000000
set_option linter.unusedVariables false
set_option linter.unusedSimpArgs false
namespace Go.T9
open Go Go.AM
noncomputable section
def bkV (a : List Value) (i : Int) : Bool := decide (0 < i.toNat) && decide ((tyAt a i).se < (tyAt a ((i.toNat - 1 : Nat) : Int)).se)
def tfV (u : Int) (a : List Value) (i : Int) : Int := bif rngB (tyAt a i) u then lastE (tyAt a i) u (bkV a i) else 9
def tfX : List Value → Option Value
  | [.agg ⟨[.int .i64 u, .func (.yield 16) ⟨a⟩ ⟨[]⟩, .func (.yield 7) ⟨_⟩ ⟨[]⟩]⟩, .int .i64 i] => some (.int .i64 (tfV u a i))
  | _ => none
def tfPre : List Value → Option Prop
  | [.agg ⟨[.int .i64 _, .func (.yield 16) ⟨a⟩ ⟨[]⟩, .func (.yield 7) ⟨b⟩ ⟨[]⟩]⟩, .int .i64 i] => some (∃ (ts : List Ty) (vs : List Vi) (n : Nat), a = ts.map tyv ∧ b = vs.map viv ∧ i = (n : Int) ∧ n < ts.length ∧ ts.length ≤ 20000)
  | _ => none
theorem HF_log (u : Int) (ts : List Ty) (vs : List Vi) : HF (logv u (ts.map tyv) (vs.map viv)) := .agg (HF.cons (HFi _ _) (HF.cons (HF_tys ts) (HF.cons (HF_vis vs) HF.nil)))
theorem tf_tab : ∀ args A p v A', pureR tfPre tfX args A = some (p, v, A') → PH p → CallAt env 36 args A v A' := walk_tab env_ok env_gl (fn := Proofs.Tryz.f36) rfl fun args v h hp => by
  unfold tfX at h
  split at h
  · simp only [Option.some.injEq] at h
    subst h
    obtain ⟨ts, vs, n, rfl, rfl, rfl, hn, ht⟩ := hp
    refine ⟨HF.cons (HF_log _ ts vs) (HF.cons (HFi _ _) HF.nil), ?_⟩
    have := TF_walk ‹_› ts vs n hn ht
    simp only [tfV, bkV, bkB, Int.toNat_natCast, ty_at hn] at this ⊢
    exact this
  · cases h
def vfX : List Value → Option Value
  | [.agg ⟨[.int .i64 u, .func (.yield 16) ⟨_⟩ ⟨[]⟩, .func (.yield 7) ⟨_⟩ ⟨[]⟩]⟩, .agg ⟨[.int .i64 x0, .int .i64 x1, .int .i64 x2, .int .i64 x3, .int .i64 x4, .int .i64 x5, .string x6]⟩] => some (.int .i64 (visF ⟨x0, x1, x2, x3, x4, x5, x6⟩ u))
  | _ => none
def vfPre : List Value → Option Prop
  | [.agg ⟨[.int .i64 _, .func (.yield 16) ⟨a⟩ ⟨[]⟩, .func (.yield 7) ⟨b⟩ ⟨[]⟩]⟩, .agg ⟨[.int .i64 _, .int .i64 _, .int .i64 _, .int .i64 _, .int .i64 _, .int .i64 _, .string _]⟩] => some (∃ (ts : List Ty) (vs : List Vi), a = ts.map tyv ∧ b = vs.map viv)
  | _ => none
theorem vf_tab : ∀ args A p v A', pureR vfPre vfX args A = some (p, v, A') → PH p → CallAt env 37 args A v A' := walk_tab env_ok env_gl (fn := Proofs.Tryz.f37) rfl fun args v h hp => by
  unfold vfX at h
  split at h
  · simp only [Option.some.injEq] at h
    subst h
    obtain ⟨ts, vs, rfl, rfl⟩ := hp
    exact ⟨HF.cons (HF_log _ ts vs) (HF.cons (HF_vi ⟨_, _, _, _, _, _, _⟩) HF.nil), visR_walk ⟨_, _, _, _, _, _, _⟩ _ ts vs⟩
  · cases h
def tabR : Tab := [(36, pureR tfPre tfX), (37, pureR vfPre vfX), (32, pureR (fun _ => none) outsideX)]
theorem tabR_ok : TabOk env tabR := .cons tf_tab (.cons vf_tab (.cons (con_tab outside_con) .nil))
def XR : SX := ⟨env, tabR, elL, fun k => bif Nat.beq k 6 then .auto [] [1, 23, 24] else .auto [] [1, 35, 36, 37]⟩
theorem XR_ok : XR.Ok := ⟨env_ok, env_sym, env_gl, tabR_ok⟩
def frR1 (ts : List Value) (i : Nat) : T Value := (.node (.node (.node (.node .leaf none (.node .leaf (some (.int .i64 ts.length)) .leaf)) none .leaf) (some (.pointer (some ⟨0, 0, none⟩))) .leaf) none (.node (.node (.node .leaf none (.node .leaf (some (.int .i64 i)) .leaf)) none .leaf) none .leaf))
def frR2 (vs : List Value) (i : Nat) : T Value := (.node (.node (.node .leaf none (.node (.node (.node .leaf (some (dat 7 vs)) .leaf) none .leaf) none .leaf)) (some (.pointer (some ⟨0, 0, none⟩))) (.node .leaf none (.node (.node (.node .leaf (some (.int .i64 i)) .leaf) none .leaf) none .leaf))) none (.node (.node .leaf none (.node (.node (.node .leaf (some (.int .i64 vs.length)) .leaf) none .leaf) none .leaf)) none .leaf))
def jRL (Q : Value → Prop) (QA : KV) (u : Int) (ts vs : List Value) : Prop := sxFn XR 1 Proofs.Tryz.f10 [logv u ts vs] (leafK Q QA)
def jRL1 (Q : Value → Prop) (QA : KV) (again : KF) (u : Int) (ts vs : List Value) (i : Nat) : Prop := sxStepA XR 1 Proofs.Tryz.f10 [1, 1, 1, 0, 1, 0] (leafK Q QA) [] [1, 23, 24] again (frR1 ts i) (hL u ts vs)
def jRL2 (Q : Value → Prop) (QA : KV) (again : KF) (u : Int) (ts vs : List Value) (i : Nat) : Prop := sxStepA XR 1 Proofs.Tryz.f10 [1, 1, 1, 1, 0, 1, 0] (leafK Q QA) [] [1, 35, 36, 37] again (frR2 vs i) (hL u ts vs)
end
end Go.T9
set_option maxRecDepth 1000000
set_option linter.unusedVariables false
set_option linter.unusedSimpArgs false
namespace Go.T9
open Go Go.AM
noncomputable section
theorem jRL_nf (Q : Go.Value → Prop) (QA : KV) (u : Int) (ts : List Go.Value) (vs : List Go.Value) : jRL Q QA u ts vs = (Sp (!(decide (0 ≤ u) && decide (u ≤ 1000000000000))) (Q (Value.int .i64 9)) (Sp (decide (20000 < (↑(List.length ts) : Int))) (Q (Value.int .i64 3)) (Sp (decide (100000 < (↑(List.length vs) : Int))) (Q (Value.int .i64 3)) (HF (Value.func (Go.Fn.yield 16) (Array.mk ts) (Array.mk [])) ∧ HF (Value.func (Go.Fn.yield 7) (Array.mk vs) (Array.mk [])) ∧ LAt XR 1 (Go.Func.ntmps Go.Proofs.Tryz.f10) (bodyOf Go.Proofs.Tryz.f10) [1, 1, 1, 0, 1, 0] (finK (SX.E XR) (Array.toList (Go.Func.results Go.Proofs.Tryz.f10)) (leafK Q QA)) (T.node (T.node (T.node (T.node T.leaf none (T.node T.leaf (some (Value.int .i64 (↑(List.length ts) : Int))) T.leaf)) none T.leaf) (some (Value.pointer (some (Go.Addr.mk 0 0 none)))) T.leaf) none (T.node (T.node (T.node T.leaf none (T.node T.leaf (some (Value.int .i64 0)) T.leaf)) none T.leaf) none T.leaf)) (AH.mk (T.node T.leaf (some (AObj.cells [Value.int .i64 u, Value.func (Go.Fn.yield 16) (Array.mk ts) (Array.mk []), Value.func (Go.Fn.yield 7) (Array.mk vs) (Array.mk [])] 25)) T.leaf) 1))))) := by kernel_rfl
theorem jRL1_nf (Q : Go.Value → Prop) (QA : KV) (again : KF) (u : Int) (ts : List Go.Value) (vs : List Go.Value) (i : Nat) : jRL1 Q QA again u ts vs i = (Sp (decide ((↑i : Int) < (↑(List.length ts) : Int))) ((∃ (ts_1 : List Ty), ∃ (vs_1 : List Vi), ∃ (n : Nat), ts = List.map tyv ts_1 ∧ vs = List.map viv vs_1 ∧ (↑i : Int) = (↑n : Int) ∧ n < List.length ts_1 ∧ List.length ts_1 ≤ 20000) ∧ Sp (!decide (tfV u ts (↑i : Int) = 0)) (Q (Value.int .i64 (tfV u ts (↑i : Int)))) (HF (Value.func (Go.Fn.yield 16) (Array.mk ts) (Array.mk [])) ∧ HF (Value.func (Go.Fn.yield 7) (Array.mk vs) (Array.mk [])) ∧ again (T.node (T.node (T.node (T.node T.leaf none (T.node T.leaf (some (Value.int .i64 (↑(List.length ts) : Int))) T.leaf)) none T.leaf) (some (Value.pointer (some (Go.Addr.mk 0 0 none)))) T.leaf) none (T.node (T.node (T.node T.leaf none (T.node T.leaf (some (Value.int .i64 (IntKind.wrap .i64 ((↑i : Int) + 1)))) T.leaf)) none T.leaf) none T.leaf)) (AH.mk (T.node T.leaf (some (AObj.cells [Value.int .i64 u, Value.func (Go.Fn.yield 16) (Array.mk ts) (Array.mk []), Value.func (Go.Fn.yield 7) (Array.mk vs) (Array.mk [])] 25)) T.leaf) 1))) (HF (Value.func (Go.Fn.yield 7) (Array.mk vs) (Array.mk [])) ∧ HF (Value.func (Go.Fn.yield 16) (Array.mk ts) (Array.mk [])) ∧ HF (Value.func (Go.Fn.yield 7) (Array.mk vs) (Array.mk [])) ∧ LAt XR 1 (Go.Func.ntmps Go.Proofs.Tryz.f10) (bodyOf Go.Proofs.Tryz.f10) [1, 1, 1, 1, 0, 1, 0] (finK (SX.E XR) (Array.toList (Go.Func.results Go.Proofs.Tryz.f10)) (leafK Q QA)) (T.node (T.node (T.node T.leaf none (T.node (T.node (T.node T.leaf (some (Value.func (Go.Fn.yield 7) (Array.mk vs) (Array.mk []))) T.leaf) none T.leaf) none T.leaf)) (some (Value.pointer (some (Go.Addr.mk 0 0 none)))) (T.node T.leaf none (T.node (T.node (T.node T.leaf (some (Value.int .i64 0)) T.leaf) none T.leaf) none T.leaf))) none (T.node (T.node T.leaf none (T.node (T.node (T.node T.leaf (some (Value.int .i64 (↑(List.length vs) : Int))) T.leaf) none T.leaf) none T.leaf)) none T.leaf)) (AH.mk (T.node T.leaf (some (AObj.cells [Value.int .i64 u, Value.func (Go.Fn.yield 16) (Array.mk ts) (Array.mk []), Value.func (Go.Fn.yield 7) (Array.mk vs) (Array.mk [])] 25)) T.leaf) 1))) := by kernel_rfl
theorem jRL2_nf (Q : Go.Value → Prop) (QA : KV) (again : KF) (u : Int) (ts : List Go.Value) (vs : List Go.Value) (i : Nat) : jRL2 Q QA again u ts vs i = (Sp (decide ((↑i : Int) < (↑(List.length vs) : Int))) ((0 ≤ (↑i : Int) ∧ (↑i : Int) < (↑(List.length vs) : Int)) ∧ nth vs (Int.toNat (↑(Int.toNat (↑i : Int)) : Int)) = some (Value.agg (Array.mk [Value.int .i64 (Vi.g (viAt vs (↑(Int.toNat (↑i : Int)) : Int))), Value.int .i64 (Vi.u (viAt vs (↑(Int.toNat (↑i : Int)) : Int))), Value.int .i64 (Vi.fr (viAt vs (↑(Int.toNat (↑i : Int)) : Int))), Value.int .i64 (Vi.to (viAt vs (↑(Int.toNat (↑i : Int)) : Int))), Value.int .i64 (Vi.en (viAt vs (↑(Int.toNat (↑i : Int)) : Int))), Value.int .i64 (Vi.er (viAt vs (↑(Int.toNat (↑i : Int)) : Int))), Value.string (Vi.tx (viAt vs (↑(Int.toNat (↑i : Int)) : Int)))])) ∧ (∃ (ts_1 : List Ty), ∃ (vs_1 : List Vi), ts = List.map tyv ts_1 ∧ vs = List.map viv vs_1) ∧ Sp (!decide (visF (viAt vs (↑(Int.toNat (↑i : Int)) : Int)) u = 0)) (Q (Value.int .i64 (visF (viAt vs (↑(Int.toNat (↑i : Int)) : Int)) u))) (HF (Value.func (Go.Fn.yield 7) (Array.mk vs) (Array.mk [])) ∧ HF (Value.func (Go.Fn.yield 16) (Array.mk ts) (Array.mk [])) ∧ HF (Value.func (Go.Fn.yield 7) (Array.mk vs) (Array.mk [])) ∧ again (T.node (T.node (T.node T.leaf none (T.node (T.node (T.node T.leaf (some (Value.func (Go.Fn.yield 7) (Array.mk vs) (Array.mk []))) T.leaf) none T.leaf) none T.leaf)) (some (Value.pointer (some (Go.Addr.mk 0 0 none)))) (T.node T.leaf none (T.node (T.node (T.node T.leaf (some (Value.int .i64 (IntKind.wrap .i64 ((↑i : Int) + 1)))) T.leaf) none T.leaf) none T.leaf))) none (T.node (T.node T.leaf none (T.node (T.node (T.node T.leaf (some (Value.int .i64 (↑(List.length vs) : Int))) T.leaf) none T.leaf) none T.leaf)) none T.leaf)) (AH.mk (T.node T.leaf (some (AObj.cells [Value.int .i64 u, Value.func (Go.Fn.yield 16) (Array.mk ts) (Array.mk []), Value.func (Go.Fn.yield 7) (Array.mk vs) (Array.mk [])] 25)) T.leaf) 1))) (Q (Value.int .i64 0))) := by kernel_rfl
theorem tf_shape (x : Ty) (u : Int) (b : Bool) : (bif rngB x u then lastE x u b else 9) = bif decide (chkT x u = 0) then (bif b then 10 else 0) else chkT x u := by
  unfold lastE chkT
  cases rngB x u <;> cases ordB x u <;> cases frmB x <;> cases endB x u <;> cases b <;> rfl
theorem bkV_eq {ts : List Ty} {n : Nat} (h : n < ts.length) : bkV (ts.map tyv) (n : Int) = lessP (prevS ts n) ts[n].se := by
  simp only [bkV, Int.toNat_natCast, ty_at h]
  cases n with
  | zero => rfl
  | succ m =>
    have hm : m < ts.length := by omega
    simp only [Nat.add_sub_cancel, ty_at hm, prevS, List.getElem?_eq_getElem hm, Option.map_some, lessP]
    simp
theorem tfV_eq {u : Int} {ts : List Ty} {n : Nat} (h : n < ts.length) : tfV u (ts.map tyv) (n : Int) = bif decide (chkT ts[n] u = 0) then (bif lessP (prevS ts n) ts[n].se then 10 else 0) else chkT ts[n] u := by
  simp only [tfV, ty_at h, bkV_eq h, tf_shape]
theorem RL_loop2 (Q : Value → Prop) (QA : KV) (u : Int) (ts : List Ty) (vs : List Vi) (hv : vs.length ≤ 100000) (hQ : Q (.int .i64 (chkVs u vs))) :
    LAt XR 1 (Func.ntmps Proofs.Tryz.f10) (bodyOf Proofs.Tryz.f10) [1, 1, 1, 1, 0, 1, 0] (finK XR.E (Proofs.Tryz.f10.results).toList (leafK Q QA)) (frR2 (vs.map viv) 0) (hL u (ts.map tyv) (vs.map viv)) := by
  refine LAt.stepA XR_ok [] [1, 35, 36, 37] (by kernel_rfl) (fun k F A => ∃ i : Nat, F = frR2 (vs.map viv) i ∧ A = hL u (ts.map tyv) (vs.map viv) ∧ i + k = vs.length ∧ chkVs u (vs.drop i) = chkVs u vs) ?_ (k := vs.length) ⟨0, rfl, rfl, by simp, by simp⟩
  rintro k F A ⟨i, rfl, rfl, hk, he⟩
  refine (jRL2_nf _ _ _ u _ _ i).mpr ?_
  refine Sp.intro (fun h => ?_) (fun h => ?_)
  · have hlt : i < vs.length := by simpa using h
    have hat := vi_at hlt
    rw [chkVs_step hlt] at he
    refine ⟨vi_b hlt, vi_c hlt, ⟨ts, vs, rfl, rfl⟩, ?_⟩
    simp only [Int.toNat_natCast, hat]
    refine Sp.intro (fun h => ?_) (fun h => ⟨HF_vis vs, HF_tys ts, HF_vis vs, k - 1, by omega, i + 1, ?_, rfl, by omega, ?_⟩)
    · rw [Bool.not_eq_true'] at h
      rw [h] at he
      rw [← he] at hQ
      exact hQ
    · rw [idx_succ (by omega)]
      rfl
    · rw [Bool.not_eq_false'] at h
      rw [h] at he
      exact he
  · have : vs.drop i = [] := List.drop_eq_nil_of_le (by simp at h; omega)
    rw [this] at he
    rw [← he] at hQ
    exact hQ
theorem RL_loop1 (Q : Value → Prop) (QA : KV) (u : Int) (ts : List Ty) (vs : List Vi) (ht : ts.length ≤ 20000) (hv : vs.length ≤ 100000) (hQ : Q (.int .i64 (bif decide (chkTs u none ts = 0) then chkVs u vs else chkTs u none ts))) :
    LAt XR 1 (Func.ntmps Proofs.Tryz.f10) (bodyOf Proofs.Tryz.f10) [1, 1, 1, 0, 1, 0] (finK XR.E (Proofs.Tryz.f10.results).toList (leafK Q QA)) (frR1 (ts.map tyv) 0) (hL u (ts.map tyv) (vs.map viv)) := by
  refine LAt.stepA XR_ok [] [1, 23, 24] (by kernel_rfl) (fun k F A => ∃ i : Nat, F = frR1 (ts.map tyv) i ∧ A = hL u (ts.map tyv) (vs.map viv) ∧ i + k = ts.length ∧ chkTs u (prevS ts i) (ts.drop i) = chkTs u none ts) ?_ (k := ts.length) ⟨0, rfl, rfl, by simp, by simp [prevS]⟩
  rintro k F A ⟨i, rfl, rfl, hk, he⟩
  refine (jRL1_nf _ _ _ u _ _ i).mpr ?_
  refine Sp.intro (fun h => ?_) (fun h => ?_)
  · have hlt : i < ts.length := by simpa using h
    rw [chkTs_step hlt] at he
    refine ⟨⟨ts, vs, i, rfl, rfl, rfl, hlt, ht⟩, ?_⟩
    rw [tfV_eq hlt]
    generalize hc : chkT ts[i] u = c at he ⊢
    generalize hb : lessP (prevS ts i) ts[i].se = b at he ⊢
    refine Sp.intro (fun h => ?_) (fun h => ⟨HF_tys ts, HF_vis vs, k - 1, by omega, i + 1, ?_, rfl, by omega, ?_⟩)
    · have key : (bif decide (c = 0) then (bif b then 10 else 0) else c) = chkTs u none ts := by
        rw [← he]
        cases hd : decide (c = 0) with
        | false => rfl
        | true =>
          cases b with
          | true => rfl
          | false => rw [hd] at h; simp at h
      have e0 : decide (chkTs u none ts = 0) = false := by rw [← key]; simpa using h
      rw [e0] at hQ
      rw [← key] at hQ
      exact hQ
    · rw [idx_succ (by omega)]
      rfl
    · rw [← he]
      cases hd : decide (c = 0) with
      | false => rw [hd] at h; simp only [cond_false] at h; simp [hd] at h
      | true =>
        cases b with
        | true => rw [hd] at h; simp at h
        | false => rfl
  · have : ts.drop i = [] := List.drop_eq_nil_of_le (by simp at h; omega)
    rw [this] at he
    have e0 : chkTs u none ts = 0 := he.symm
    rw [e0] at hQ
    exact ⟨HF_vis vs, HF_tys ts, HF_vis vs, RL_loop2 Q QA u ts vs hv hQ⟩
theorem RL_walk (u : Int) (ts : List Ty) (vs : List Vi) : Walk env Proofs.Tryz.f10 [logv u (ts.map tyv) (vs.map viv)] (.int .i64 (logE u ts vs)) := by
  refine sxFn_plain XR_ok (d := 1) (HFi _ _) ((jRL_nf _ _ u _ _).mpr ?_)
  refine Sp.intro (fun h => ?_) (fun h => Sp.intro (fun h1 => ?_) (fun h1 => Sp.intro (fun h2 => ?_) (fun h2 => ?_)))
  · rw [Bool.not_eq_true'] at h
    exact congrArg (Value.int .i64) (by simp only [logE, isIn, h, cond_false])
  · rw [Bool.not_eq_false'] at h
    simp only [List.length_map, decide_eq_true_eq] at h1
    have : decide (20000 < ts.length) = true := by simp; omega
    exact congrArg (Value.int .i64) (by simp only [logE, isIn, h, this, Bool.true_or, cond_true])
  · rw [Bool.not_eq_false'] at h
    simp only [List.length_map, decide_eq_true_eq] at h2
    have : decide (100000 < vs.length) = true := by simp; omega
    exact congrArg (Value.int .i64) (by simp only [logE, isIn, h, this, Bool.or_true, cond_true])
  · rw [Bool.not_eq_false'] at h
    simp only [List.length_map, decide_eq_false_iff_not] at h1 h2
    have e1 : decide (20000 < ts.length) = false := by simp; omega
    have e2 : decide (100000 < vs.length) = false := by simp; omega
    refine ⟨HF_tys ts, HF_vis vs, RL_loop1 _ _ u ts vs (by omega) (by omega) ?_⟩
    exact congrArg (Value.int .i64) (by simp only [logE, isIn, h, e1, e2, Bool.or_false, cond_true, cond_false])
def clX (ts : List Ty) (vs : List Vi) : List Value → Option Value
  | [.agg ⟨[.int .i64 u, .func (.yield 16) ⟨_⟩ ⟨[]⟩, .func (.yield 7) ⟨_⟩ ⟨[]⟩]⟩] => some (.int .i64 (logE u ts vs))
  | _ => none
def clPre (ts : List Ty) (vs : List Vi) : List Value → Option Prop
  | [.agg ⟨[.int .i64 _, .func (.yield 16) ⟨a⟩ ⟨[]⟩, .func (.yield 7) ⟨b⟩ ⟨[]⟩]⟩] => some (a = ts.map tyv ∧ b = vs.map viv)
  | _ => none
theorem clW_tab (ts : List Ty) (vs : List Vi) : ∀ args A p v A', pureR (clPre ts vs) (clX ts vs) args A = some (p, v, A') → PH p → CallAt env 9 args A v A' := walk_tab env_ok env_gl (fn := Proofs.Tryz.f9) rfl fun args v h hp => by
  unfold clX at h
  split at h
  · simp only [Option.some.injEq] at h
    subst h
    obtain ⟨rfl, rfl⟩ := hp
    exact ⟨HF.cons (HF_log _ ts vs) HF.nil, CL_walk _ ts vs⟩
  · cases h
theorem clR_tab (ts : List Ty) (vs : List Vi) : ∀ args A p v A', pureR (clPre ts vs) (clX ts vs) args A = some (p, v, A') → PH p → CallAt env 10 args A v A' := walk_tab env_ok env_gl (fn := Proofs.Tryz.f10) rfl fun args v h hp => by
  unfold clX at h
  split at h
  · simp only [Option.some.injEq] at h
    subst h
    obtain ⟨rfl, rfl⟩ := hp
    exact ⟨HF.cons (HF_log _ ts vs) HF.nil, RL_walk _ ts vs⟩
  · cases h
def elC : El := { elL with app := true }
def tabW (ts : List Ty) (vs : List Vi) : Tab := [(9, pureR (clPre ts vs) (clX ts vs)), (31, pureR (fun _ => none) cutTX), (30, pureR (fun _ => none) insideX)]
def XW (ts : List Ty) (vs : List Vi) : SX := ⟨env, tabW ts vs, elC, fun k => bif Nat.beq k 8 then .auto [59, 62] [1, 2, 4, 7, 28, 29, 30] else .auto [59, 62] [1, 4, 7, 48, 49, 50]⟩
def frC1 (t : Int) (ts : List Value) (i : Nat) : T Value := (.node (.node (.node (.node .leaf (some (.pointer (some ⟨2, 0, none⟩))) .leaf) none .leaf) (some (.int .i64 t)) (.node .leaf none (.node .leaf none (.node .leaf (some (.int .i64 ts.length)) .leaf)))) none (.node (.node .leaf (some (.pointer (some ⟨1, 0, none⟩))) (.node .leaf none (.node .leaf (some (dat 16 ts)) .leaf))) (some (.pointer (some ⟨0, 0, none⟩))) (.node .leaf none (.node .leaf none (.node .leaf (some (.int .i64 i)) .leaf)))))
def zL : List Value := [.int .i64 0, .slice none 0 0, .slice none 0 0]
def hN (u m : Int) (ts vs : List Value) : AH := ⟨(.node (.node .leaf (some (.cells zL 25)) .leaf) (some (.cells [.int .i64 u, dat 16 ts, dat 7 vs] 25)) (.node .leaf (some (.cells [.int .i64 m, .slice none 0 0, .slice none 0 0] 25)) .leaf)), 3⟩
def hC (u m : Int) (ts vs : List Value) (c : List Value) (n : Nat) : AH := ⟨(.node (.node (.node .leaf (some (.cells c 59)) .leaf) (some (.cells zL 25)) .leaf) (some (.cells [.int .i64 u, dat 16 ts, dat 7 vs] 25)) (.node .leaf (some (.cells [.int .i64 m, .slice (some ⟨3, 0, none⟩) n unk, .slice none 0 0] 25)) .leaf)), 4⟩
def jCW (K : KV) (u t : Int) (ts : List Ty) (vs : List Vi) : Prop := sxFn (XW ts vs) 1 Proofs.Tryz.f7 [logv u (ts.map tyv) (vs.map viv), .int .i64 t] K
def jCWn (K : KV) (again : KF) (u m t : Int) (ts : List Ty) (vs : List Vi) (i : Nat) : Prop := sxStepA (XW ts vs) 1 Proofs.Tryz.f7 [1, 1, 1, 1, 0, 1, 0] K [59, 62] [1, 2, 4, 7, 28, 29, 30] again (frC1 t (ts.map tyv) i) (hN u m (ts.map tyv) (vs.map viv))
def jCWb (K : KV) (again : KF) (u m t : Int) (ts : List Ty) (vs : List Vi) (i : Nat) (c : List Value) (n : Nat) : Prop := sxStepA (XW ts vs) 1 Proofs.Tryz.f7 [1, 1, 1, 1, 0, 1, 0] K [59, 62] [1, 2, 4, 7, 28, 29, 30] again (frC1 t (ts.map tyv) i) (hC u m (ts.map tyv) (vs.map viv) c n)
end
end Go.T9
