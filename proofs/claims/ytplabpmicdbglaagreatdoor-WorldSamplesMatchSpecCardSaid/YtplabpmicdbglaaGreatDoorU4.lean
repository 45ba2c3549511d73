/- A part of the proof. -/
import Derived.Test.YtplabpmicdbglaaGreatDoorX1
import Derived.Test.YtplabpmicdbglaaGreatDoorX2
import Derived.Test.YtplabpmicdbglaaGreatDoorX3
import Derived.Test.YtplabpmicdbglaaGreatDoorX4
import Derived.Test.YtplabpmicdbglaaGreatDoorU3
import Derived.KernelRfl
import Derived.Test.YtplabpmicdbglaaGreatDoorF
import Derived.Test.YtplabpmicdbglaaGreatDoorU1
import Derived.Test.YtplabpmicdbglaaGreatDoorC
set_option maxRecDepth 1000000
set_option linter.unusedVariables false
namespace Go.T9
open Go Go.AM
noncomputable section
theorem okDig : ∀ n : Nat, n < 600 → okD 45 n = true := fun n hn => by
  by_cases h0 : n < 30
  · exact allD_get digD0 (by omega) (by omega)
  by_cases h1 : n < 60
  · exact allD_get digD1 (by omega) (by omega)
  by_cases h2 : n < 90
  · exact allD_get digD2 (by omega) (by omega)
  by_cases h3 : n < 120
  · exact allD_get digD3 (by omega) (by omega)
  by_cases h4 : n < 150
  · exact allD_get digD4 (by omega) (by omega)
  by_cases h5 : n < 180
  · exact allD_get digD5 (by omega) (by omega)
  by_cases h6 : n < 210
  · exact allD_get digD6 (by omega) (by omega)
  by_cases h7 : n < 240
  · exact allD_get digD7 (by omega) (by omega)
  by_cases h8 : n < 270
  · exact allD_get digD8 (by omega) (by omega)
  by_cases h9 : n < 300
  · exact allD_get digD9 (by omega) (by omega)
  by_cases h10 : n < 330
  · exact allD_get digD10 (by omega) (by omega)
  by_cases h11 : n < 360
  · exact allD_get digD11 (by omega) (by omega)
  by_cases h12 : n < 390
  · exact allD_get digD12 (by omega) (by omega)
  by_cases h13 : n < 420
  · exact allD_get digD13 (by omega) (by omega)
  by_cases h14 : n < 450
  · exact allD_get digD14 (by omega) (by omega)
  by_cases h15 : n < 480
  · exact allD_get digD15 (by omega) (by omega)
  by_cases h16 : n < 510
  · exact allD_get digD16 (by omega) (by omega)
  by_cases h17 : n < 540
  · exact allD_get digD17 (by omega) (by omega)
  by_cases h18 : n < 570
  · exact allD_get digD18 (by omega) (by omega)
  by_cases h19 : n < 600
  · exact allD_get digD19 (by omega) (by omega)
  omega
theorem okItoa : ∀ n : Nat, n < 600 → okD 42 n = true := fun n hn => by
  by_cases h0 : n < 50
  · exact allD_get digI0 (by omega) (by omega)
  by_cases h1 : n < 100
  · exact allD_get digI1 (by omega) (by omega)
  by_cases h2 : n < 150
  · exact allD_get digI2 (by omega) (by omega)
  by_cases h3 : n < 200
  · exact allD_get digI3 (by omega) (by omega)
  by_cases h4 : n < 250
  · exact allD_get digI4 (by omega) (by omega)
  by_cases h5 : n < 300
  · exact allD_get digI5 (by omega) (by omega)
  by_cases h6 : n < 350
  · exact allD_get digI6 (by omega) (by omega)
  by_cases h7 : n < 400
  · exact allD_get digI7 (by omega) (by omega)
  by_cases h8 : n < 450
  · exact allD_get digI8 (by omega) (by omega)
  by_cases h9 : n < 500
  · exact allD_get digI9 (by omega) (by omega)
  by_cases h10 : n < 550
  · exact allD_get digI10 (by omega) (by omega)
  by_cases h11 : n < 600
  · exact allD_get digI11 (by omega) (by omega)
  omega
def decP : List Value → Option Value
  | [.int .i64 n] => bif decide (0 ≤ n) && decide (n < 600) then some (.string (dec n)) else none
  | _ => none
theorem dec_con {f : FuncId} (h : ∀ n : Nat, n < 600 → okD f n = true) : Con env f (pureX decP) := con_closed env1_ok rfl fns1_ok rfl (fun σ hg g cs e => hg g cs e) fun args v hv => by
  unfold decP at hv
  split at hv
  · rename_i n
    cases hb : decide (0 ≤ n) && decide (n < 600) with
    | false => rw [hb] at hv; cases hv
    | true =>
      rw [hb] at hv
      simp only [cond_true, Option.some.injEq] at hv
      subst hv
      simp only [Bool.and_eq_true, decide_eq_true_eq] at hb
      obtain ⟨m, rfl⟩ := Int.eq_ofNat_of_zero_le hb.1
      exact ⟨rfl, rfl, okD_call (h m (by omega))⟩
  · cases hv
theorem itoa_con : Con env 42 (pureX decP) := dec_con okItoa
theorem digits_con : Con env 45 (pureX decP) := dec_con okDig
end
end Go.T9
set_option maxRecDepth 1000000
set_option linter.unusedVariables false
set_option linter.unusedSimpArgs false
namespace Go.T9
open Go Go.AM Go.MK
noncomputable section
theorem jAskOf_nf (Q : Go.Value → Prop) (QA : KV) (x : Ty) : jAskOf Q QA x = (Q (Value.agg (Array.mk [Value.int IntKind.i64 (Ty.g x), Value.int IntKind.i64 (Ty.u x), Value.int IntKind.i64 (Ty.a x)]))) := by kernel_rfl
theorem jKey_nf (Q : Go.Value → Prop) (QA : KV) (x : Ty) : jKey Q QA x = (Q (Value.agg (Array.mk [Value.int IntKind.i64 (Ty.g x), Value.int IntKind.i64 (Ty.u x), Value.int IntKind.i64 (Ty.a x)]))) := by kernel_rfl
/-! ### The contracts in the table -/
theorem dec_tab {f : FuncId} (h : Con env f (pureX decP)) : ∀ args A p v A', pureR decPre decX args A = some (p, v, A') → PH p → CallAt env f args A v A' :=
  pureR_ok fun args v hv hp A σ w args' R hg ha => h args A v A (by
    have : decP args = some v := by
      unfold decX at hv
      split at hv
      · rename_i n
        have hp : 0 ≤ n ∧ n ≤ 599 := hp
        simp only [Option.some.injEq] at hv
        subst hv
        have e : (decide (0 ≤ n) && decide (n < 600)) = true := by simp; omega
        simp only [decP, e, cond_true]
      · cases hv
    simp [pureX, this]) σ w args' R hg ha
theorem HF_kv3 (k : Key3) : HF (kv3 k) := .agg (HF.cons (HFi _ _) (HF.cons (HFi _ _) (HF.cons (HFi _ _) HF.nil)))
theorem askOf_walk (x : Ty) : Walk env Proofs.Tryz.f41 [tyv x] (kv3 (keyT x)) := by
  refine sxFn_plain XU_ok (d := 1) (HF_kv3 _) ((jAskOf_nf _ _ x).mpr ?_)
  rfl
theorem askOf_tab : ∀ args A p v A', pureR (fun _ => none) keyX args A = some (p, v, A') → PH p → CallAt env 41 args A v A' := walk_tab env_ok env_gl (fn := Proofs.Tryz.f41) rfl fun args v h hp => by
  unfold keyX at h
  split at h
  · rename_i a0 a1 a2 a3 s4 a5 a6 a7 a8 a9 a10 a11 a12 a13 a14 a15
    simp only [Option.some.injEq] at h
    subst h
    exact ⟨HF.cons (HF_ty ⟨a0, a1, a2, a3, s4, a5, a6, a7, a8, a9, a10, a11, a12, a13, a14, a15⟩) HF.nil, askOf_walk ⟨a0, a1, a2, a3, s4, a5, a6, a7, a8, a9, a10, a11, a12, a13, a14, a15⟩⟩
  · cases h
theorem key_walk (x : Ty) : Walk env Proofs.Tryz.f44 [tyv x] (kv3 (keyT x)) := by
  refine sxFn_plain XU_ok (d := 1) (HF_kv3 _) ((jKey_nf _ _ x).mpr ?_)
  rfl
theorem key_tab : ∀ args A p v A', pureR (fun _ => none) keyX args A = some (p, v, A') → PH p → CallAt env 44 args A v A' := walk_tab env_ok env_gl (fn := Proofs.Tryz.f44) rfl fun args v h hp => by
  unfold keyX at h
  split at h
  · rename_i a0 a1 a2 a3 s4 a5 a6 a7 a8 a9 a10 a11 a12 a13 a14 a15
    simp only [Option.some.injEq] at h
    subst h
    exact ⟨HF.cons (HF_ty ⟨a0, a1, a2, a3, s4, a5, a6, a7, a8, a9, a10, a11, a12, a13, a14, a15⟩) HF.nil, key_walk ⟨a0, a1, a2, a3, s4, a5, a6, a7, a8, a9, a10, a11, a12, a13, a14, a15⟩⟩
  · cases h
theorem tabS_ok (ts : List Ty) (vs : List Vi) : TabOk env (tabS ts vs) := .cons (clW_tab ts vs) (.cons (clR_tab ts vs) (.cons askOf_tab (.cons key_tab (.cons (dec_tab itoa_con) (.cons (dec_tab digits_con) .nil)))))
theorem XS_ok (ts : List Ty) (vs : List Vi) : (XS ts vs).Ok := ⟨env_ok, env_sym, env_gl, tabS_ok ts vs⟩
theorem XK_ok (ts : List Ty) (vs : List Vi) : (XK ts vs).Ok := ⟨env_ok, env_sym, env_gl, tabS_ok ts vs⟩
/-! ### What the law asks of the four functions -/
def saO (u : Int) (ts : List Ty) (vs : List Vi) : List Sm := bif decide (logE u ts vs = 0) then sampL ts else []
def asO (u : Int) (ts : List Ty) (vs : List Vi) : List Int := bif decide (logE u ts vs = 0) then askL ts else []
theorem saO_eq (u : Int) (ts : List Ty) (vs : List Vi) : wantSS u ts vs = wantS (saO u ts vs) (logE u ts vs) := by
  unfold wantSS saO
  cases h : decide (logE u ts vs = 0) with
  | true => rw [of_decide_eq_true h]; rfl
  | false => rfl
theorem asO_eq (u : Int) (ts : List Ty) (vs : List Vi) : wantKK u ts vs = wantK (asO u ts vs) (logE u ts vs) := by
  unfold wantKK asO
  cases h : decide (logE u ts vs = 0) with
  | true => rw [of_decide_eq_true h]; rfl
  | false => rfl
def saX (ts : List Ty) (vs : List Vi) : List Value → Option Value
  | [.agg ⟨[.int .i64 u, .func (.yield 16) ⟨_⟩ ⟨[]⟩, .func (.yield 7) ⟨_⟩ ⟨[]⟩]⟩] => some (.tuple ⟨[dat 4 ((saO u ts vs).map smv), .int .i64 (logE u ts vs)]⟩)
  | _ => none
def akX (ts : List Ty) (vs : List Vi) : List Value → Option Value
  | [.agg ⟨[.int .i64 u, .func (.yield 16) ⟨_⟩ ⟨[]⟩, .func (.yield 7) ⟨_⟩ ⟨[]⟩]⟩] => some (.tuple ⟨[dat 1 ((asO u ts vs).map (Value.int .i64)), .int .i64 (logE u ts vs)]⟩)
  | _ => none
theorem saW_tab (ts : List Ty) (vs : List Vi) : ∀ args A p v A', pureR (clPre ts vs) (saX ts vs) args A = some (p, v, A') → PH p → CallAt env 13 args A v A' := walk_tab env_ok env_gl (fn := Proofs.Tryz.f13) rfl fun args v h hp => by
  unfold saX at h
  split at h
  · simp only [Option.some.injEq] at h
    subst h
    obtain ⟨rfl, rfl⟩ := hp
    exact ⟨HF.cons (HF_log _ ts vs) HF.nil, by have := fun u => SW_walk u ts vs (XS_ok ts vs); simp only [saO_eq] at this; exact this _⟩
  · cases h
theorem saR_tab (ts : List Ty) (vs : List Vi) : ∀ args A p v A', pureR (clPre ts vs) (saX ts vs) args A = some (p, v, A') → PH p → CallAt env 14 args A v A' := walk_tab env_ok env_gl (fn := Proofs.Tryz.f14) rfl fun args v h hp => by
  unfold saX at h
  split at h
  · simp only [Option.some.injEq] at h
    subst h
    obtain ⟨rfl, rfl⟩ := hp
    exact ⟨HF.cons (HF_log _ ts vs) HF.nil, by have := fun u => SR_walk u ts vs (XS_ok ts vs); simp only [saO_eq] at this; exact this _⟩
  · cases h
theorem akW_tab (ts : List Ty) (vs : List Vi) : ∀ args A p v A', pureR (clPre ts vs) (akX ts vs) args A = some (p, v, A') → PH p → CallAt env 17 args A v A' := walk_tab env_ok env_gl (fn := Proofs.Tryz.f17) rfl fun args v h hp => by
  unfold akX at h
  split at h
  · simp only [Option.some.injEq] at h
    subst h
    obtain ⟨rfl, rfl⟩ := hp
    exact ⟨HF.cons (HF_log _ ts vs) HF.nil, by have := fun u => KW_walk u ts vs (XK_ok ts vs); simp only [asO_eq] at this; exact this _⟩
  · cases h
theorem akR_tab (ts : List Ty) (vs : List Vi) : ∀ args A p v A', pureR (clPre ts vs) (akX ts vs) args A = some (p, v, A') → PH p → CallAt env 18 args A v A' := walk_tab env_ok env_gl (fn := Proofs.Tryz.f18) rfl fun args v h hp => by
  unfold akX at h
  split at h
  · simp only [Option.some.injEq] at h
    subst h
    obtain ⟨rfl, rfl⟩ := hp
    exact ⟨HF.cons (HF_log _ ts vs) HF.nil, by have := fun u => KR_walk u ts vs (XK_ok ts vs); simp only [asO_eq] at this; exact this _⟩
  · cases h
end
end Go.T9
set_option maxRecDepth 1000000
set_option linter.unusedVariables false
set_option linter.unusedSimpArgs false
namespace Go.T9
open Go Go.AM Go.MK
noncomputable section
/-! ### Equal rows of numbers, of pairs, of samples -/
def pairV (a b : ByteArray) : Value := .agg ⟨[.string a, .string b]⟩
def p1 : Value → ByteArray
  | .agg ⟨[.string a, .string _]⟩ => a
  | _ => ⟨⟨[]⟩⟩
def p2 : Value → ByteArray
  | .agg ⟨[.string _, .string b]⟩ => b
  | _ => ⟨⟨[]⟩⟩
def at0 (els : List Value) (i : Int) : Value := (els[i.toNat]?).getD (.bool true)
def smOf : Value → Sm
  | .agg ⟨[.int _ a, .int _ d, .func _ ⟨[.agg ⟨[_, .string n]⟩, .agg ⟨[_, .string t]⟩]⟩ _, .bool b]⟩ => ⟨a, d, n, t, b⟩
  | _ => ⟨0, 0, ⟨⟨[]⟩⟩, ⟨⟨[]⟩⟩, true⟩
def smAt (els : List Value) (i : Int) : Sm := smOf (at0 els i)
def elE : El := .of fun sz _ els i => bif Nat.beq sz 1 then some (.int .i64 (intAt els i)) else bif Nat.beq sz 2 then none else some (smv (smAt els i))
def XEq : SX := ⟨env, [], elE, fun _ => .cut [] [0, 1, 12, 13] 0⟩
theorem XEq_ok : XEq.Ok := ⟨env_ok, env_sym, env_gl, .nil⟩
def frQ (sz : Nat) (els : List Value) (i : Nat) : T Value := (.node (.node .leaf (some (dat sz els)) (.node .leaf none (.node .leaf (some (.int .i64 i)) .leaf))) (some (dat sz els)) (.node (.node .leaf none (.node .leaf (some (.int .i64 els.length)) .leaf)) none .leaf))
def jEqI (K : KV) (els : List Value) : Prop := sxFn XEq 1 Proofs.Tryz.f19 [dat 1 els, dat 1 els] K
def jEqIS (K : KV) (again : KF) (els : List Value) (i : Nat) : Prop := sxStep XEq 1 Proofs.Tryz.f19 [1, 1, 0, 1, 0] K [] [0, 1, 12, 13] 0 again (frQ 1 els i) ⟨.leaf, 0⟩
/-- Two pairs: the row is closed. -/
def XEp : SX := ⟨env, [], elE, fun _ => .unroll 4⟩
theorem XEp_ok : XEp.Ok := ⟨env_ok, env_sym, env_gl, .nil⟩
def prs (s : Sm) : Value := dat 2 [pairV nmB s.nm, pairV stB s.st]
def jEqP (K : KV) (s : Sm) : Prop := sxFn XEp 1 Proofs.Tryz.f46 [prs s, prs s] K
end
end Go.T9
set_option maxRecDepth 1000000
set_option linter.unusedVariables false
set_option linter.unusedSimpArgs false
namespace Go.T9
open Go Go.AM Go.MK
noncomputable section
theorem jEqI_nf (K : KV) (els : List Go.Value) : jEqI K els = (Sp (!decide ((↑(List.length els) : Int) = (↑(List.length els) : Int))) (K (Value.bool Bool.false) (AH.mk T.leaf 0)) (HF (Value.func (Go.Fn.yield 1) (Array.mk els) (Array.mk [])) ∧ HF (Value.func (Go.Fn.yield 1) (Array.mk els) (Array.mk [])) ∧ LAt XEq 1 (Go.Func.ntmps Go.Proofs.Tryz.f19) (bodyOf Go.Proofs.Tryz.f19) [1, 1, 0, 1, 0] (finK (SX.E XEq) (Array.toList (Go.Func.results Go.Proofs.Tryz.f19)) K) (T.node (T.node T.leaf (Option.some (Value.func (Go.Fn.yield 1) (Array.mk els) (Array.mk []))) (T.node T.leaf Option.none (T.node T.leaf (Option.some (Value.int IntKind.i64 0)) T.leaf))) (Option.some (Value.func (Go.Fn.yield 1) (Array.mk els) (Array.mk []))) (T.node (T.node T.leaf Option.none (T.node T.leaf (Option.some (Value.int IntKind.i64 (↑(List.length els) : Int))) T.leaf)) Option.none T.leaf)) (AH.mk T.leaf 0))) := by kernel_rfl
theorem jEqIS_nf (K : KV) (again : KF) (els : List Go.Value) (i : Nat) : jEqIS K again els i = (Sp (decide ((↑i : Int) < (↑(List.length els) : Int))) ((0 ≤ (↑i : Int) ∧ (↑i : Int) < (↑(List.length els) : Int)) ∧ nth els (Int.toNat (↑(Int.toNat (↑i : Int)) : Int)) = Option.some (Value.int IntKind.i64 (intAt els (↑(Int.toNat (↑i : Int)) : Int))) ∧ (0 ≤ (↑i : Int) ∧ (↑i : Int) < (↑(List.length els) : Int)) ∧ nth els (Int.toNat (↑(Int.toNat (↑i : Int)) : Int)) = Option.some (Value.int IntKind.i64 (intAt els (↑(Int.toNat (↑i : Int)) : Int))) ∧ Sp (!decide (intAt els (↑(Int.toNat (↑i : Int)) : Int) = intAt els (↑(Int.toNat (↑i : Int)) : Int))) (K (Value.bool Bool.false) (AH.mk T.leaf 9)) (HF (Value.func (Go.Fn.yield 1) (Array.mk els) (Array.mk [])) ∧ HF (Value.func (Go.Fn.yield 1) (Array.mk els) (Array.mk [])) ∧ again (T.node (T.node T.leaf (Option.some (Value.func (Go.Fn.yield 1) (Array.mk els) (Array.mk []))) (T.node T.leaf Option.none (T.node T.leaf (Option.some (Value.int IntKind.i64 (IntKind.wrap IntKind.i64 ((↑i : Int) + 1)))) T.leaf))) (Option.some (Value.func (Go.Fn.yield 1) (Array.mk els) (Array.mk []))) (T.node (T.node T.leaf Option.none (T.node T.leaf (Option.some (Value.int IntKind.i64 (↑(List.length els) : Int))) T.leaf)) Option.none T.leaf)) (AH.mk T.leaf 0))) (K (Value.bool Bool.true) (AH.mk T.leaf 0))) := by kernel_rfl
theorem jEqP_nf (K : KV) (s : Sm) : jEqP K s = (((0 : Int) ≤ 0 ∧ (0 : Int) < 2) ∧ ((0 : Int) ≤ 0 ∧ (0 : Int) < 2) ∧ Sp (!(Bool.true && (eqL (Array.toList (ByteArray.data (Sm.nm s))) (Array.toList (ByteArray.data (Sm.nm s))) && Bool.true))) (K (Value.bool Bool.false) (AH.mk T.leaf 9)) (((0 : Int) ≤ 1 ∧ (1 : Int) < 2) ∧ ((0 : Int) ≤ 1 ∧ (1 : Int) < 2) ∧ Sp (!(Bool.true && (eqL (Array.toList (ByteArray.data (Sm.st s))) (Array.toList (ByteArray.data (Sm.st s))) && Bool.true))) (K (Value.bool Bool.false) (AH.mk T.leaf 18)) (K (Value.bool Bool.true) (AH.mk T.leaf 18)))) := by kernel_rfl
theorem eqLs (l : List UInt8) : eqL l l = true := (eqL_iff l l).2 rfl
theorem eqP_walk (s : Sm) : Walk env Proofs.Tryz.f46 [prs s, prs s] (.bool true) := by
  refine sxFn_frz XEp_ok (d := 1) ((jEqP_nf _ s).mpr ?_)
  refine ⟨⟨by decide, by decide⟩, ⟨by decide, by decide⟩, Sp.intro (fun h => ?_) (fun _ => ⟨⟨by decide, by decide⟩, ⟨by decide, by decide⟩, Sp.intro (fun h => ?_) (fun _ => .same (HFb _))⟩)⟩
  · simp only [eqLs, Bool.and_self, Bool.not_true, Bool.false_eq_true] at h
  · simp only [eqLs, Bool.and_self, Bool.not_true, Bool.false_eq_true] at h
theorem eqI_walk (l : List Int) (hl : l.length < 9223372036854775807) : Walk env Proofs.Tryz.f19 [dat 1 (l.map (Value.int .i64)), dat 1 (l.map (Value.int .i64))] (.bool true) := by
  refine sxFn_frz XEq_ok (d := 1) ((jEqI_nf _ (l.map (Value.int .i64))).mpr ?_)
  refine Sp.intro (fun h => by simp at h) (fun _ => ⟨HF_P1 l, HF_P1 l, ?_⟩)
  refine LAt.step XEq_ok [] [0, 1, 12, 13] 0 (by kernel_rfl) (fun k F A => ∃ i : Nat, F = frQ 1 (l.map (Value.int .i64)) i ∧ A = ⟨.leaf, 0⟩ ∧ i + k = l.length) ?_ (k := l.length) ⟨0, rfl, rfl, by simp⟩
  rintro k F A ⟨i, rfl, rfl, hk⟩
  refine (jEqIS_nf _ _ _ i).mpr ?_
  refine Sp.intro (fun h => ?_) (fun _ => .same (HFb _))
  have hlt : i < l.length := by simpa using h
  have hn : nth (l.map (Value.int .i64)) i = some (.int .i64 l[i]) := nth_map (by simp [hlt])
  have hi : intAt (l.map (Value.int .i64)) (i : Int) = l[i] := by simp only [intAt, Int.toNat_natCast, hn]
  have hb : (0 : Int) ≤ (i : Int) ∧ (i : Int) < ((l.map (Value.int .i64)).length : Int) := ⟨by omega, by simpa using hlt⟩
  have hc : nth (l.map (Value.int .i64)) (Int.toNat ((Int.toNat (i : Int) : Nat) : Int)) = some (.int .i64 (intAt (l.map (Value.int .i64)) ((Int.toNat (i : Int) : Nat) : Int))) := by
    simp only [Int.toNat_natCast]
    rw [hn, hi]
  refine ⟨hb, hc, hb, hc, Sp.intro (fun h => by simp at h) (fun _ => ⟨HF_P1 l, HF_P1 l, k - 1, by omega, i + 1, ?_, rfl, by omega⟩)⟩
  rw [idx_succ (by omega)]
  rfl
theorem HF_prs (s : Sm) : HF (prs s) := .dat fun y hy => by
  simp only [List.mem_cons, List.not_mem_nil, or_false] at hy
  rcases hy with rfl | rfl
  · exact .agg (HF.cons (HFs' _) (HF.cons (HFs' _) HF.nil))
  · exact .agg (HF.cons (HFs' _) (HF.cons (HFs' _) HF.nil))
def eqIX : List Value → Option Value
  | [.func (.yield 1) ⟨_⟩ ⟨[]⟩, .func (.yield 1) ⟨_⟩ ⟨[]⟩] => some (.bool true)
  | _ => none
def eqIPre : List Value → Option Prop
  | [.func (.yield 1) ⟨a⟩ ⟨[]⟩, .func (.yield 1) ⟨b⟩ ⟨[]⟩] => some (a = b ∧ ∃ l : List Int, a = l.map (Value.int .i64) ∧ l.length < 9223372036854775807)
  | _ => none
theorem eqI_tab : ∀ args A p v A', pureR eqIPre eqIX args A = some (p, v, A') → PH p → CallAt env 19 args A v A' := walk_tab env_ok env_gl (fn := Proofs.Tryz.f19) rfl fun args v h hp => by
  unfold eqIX at h
  split at h
  · simp only [Option.some.injEq] at h
    subst h
    obtain ⟨rfl, l, rfl, hl⟩ := hp
    exact ⟨HF.cons (HF_P1 l) (HF.cons (HF_P1 l) HF.nil), eqI_walk l hl⟩
  · cases h
def eqPX : List Value → Option Value
  | [.func (.yield 2) ⟨_⟩ ⟨[]⟩, .func (.yield 2) ⟨_⟩ ⟨[]⟩] => some (.bool true)
  | _ => none
def eqPPre : List Value → Option Prop
  | [.func (.yield 2) ⟨a⟩ ⟨[]⟩, .func (.yield 2) ⟨b⟩ ⟨[]⟩] => some (a = b ∧ ∃ s : Sm, a = [pairV nmB s.nm, pairV stB s.st])
  | _ => none
theorem eqP_tab : ∀ args A p v A', pureR eqPPre eqPX args A = some (p, v, A') → PH p → CallAt env 46 args A v A' := walk_tab env_ok env_gl (fn := Proofs.Tryz.f46) rfl fun args v h hp => by
  unfold eqPX at h
  split at h
  · simp only [Option.some.injEq] at h
    subst h
    obtain ⟨rfl, s, rfl⟩ := hp
    exact ⟨HF.cons (HF_prs s) (HF.cons (HF_prs s) HF.nil), eqP_walk s⟩
  · cases h
def tabP : Tab := [(46, pureR eqPPre eqPX)]
theorem tabP_ok : TabOk env tabP := .cons eqP_tab .nil
def XSs : SX := ⟨env, tabP, elE, fun _ => .unroll 0⟩
theorem XSs_ok : XSs.Ok := ⟨env_ok, env_sym, env_gl, tabP_ok⟩
def jSS (Q : Value → Prop) (QA : KV) (s : Sm) : Prop := sxFn XSs 1 Proofs.Tryz.f16 [smv s, smv s] (leafK Q QA)
def ssX : List Value → Option Value
  | [.agg ⟨[.int .i64 _, .int .i64 _, .func (.yield 2) ⟨_⟩ ⟨[]⟩, .bool _]⟩, .agg ⟨[.int .i64 _, .int .i64 _, .func (.yield 2) ⟨_⟩ ⟨[]⟩, .bool _]⟩] => some (.bool true)
  | _ => none
def ssPre : List Value → Option Prop
  | [a, b] => some (a = b ∧ ∃ s : Sm, a = smv s)
  | _ => none
def tabF : Tab := [(16, pureR ssPre ssX)]
def XEf : SX := ⟨env, tabF, elE, fun _ => .cut [] [1, 2, 15, 16, 17] 0⟩
def fnS : Value := .func (.func 16) ⟨[]⟩ ⟨[]⟩
def frEF (els : List Value) (i : Nat) : T Value := (.node (.node (.node (.node (.node .leaf (some (dat 4 els)) .leaf) none .leaf) none .leaf) (some (dat 4 els)) (.node (.node (.node .leaf (some (.int .i64 i)) .leaf) none .leaf) none .leaf)) none (.node (.node (.node (.node .leaf (some (.int .i64 els.length)) .leaf) none .leaf) none .leaf) (some (fnS)) .leaf))
def jEf (K : KV) (els : List Value) : Prop := sxFn XEf 1 Proofs.Tryz.f15 [dat 4 els, dat 4 els, fnS] K
def jEfS (K : KV) (again : KF) (els : List Value) (i : Nat) : Prop := sxStep XEf 1 Proofs.Tryz.f15 [1, 1, 0, 1, 0] K [] [1, 2, 15, 16, 17] 0 again (frEF els i) ⟨.leaf, 0⟩
end
end Go.T9
set_option maxRecDepth 1000000
set_option linter.unusedVariables false
set_option linter.unusedSimpArgs false
namespace Go.T9
open Go Go.AM Go.MK
noncomputable section
theorem jSS_nf (Q : Go.Value → Prop) (QA : KV) (s : Sm) : jSS Q QA s = (Sp (decide (Sm.a s = Sm.a s)) (Sp (decide (Sm.d s = Sm.d s)) (Sp (Sm.fl s == Sm.fl s) (([Value.agg (Array.mk [Value.string (ByteArray.mk (Array.mk [110, 97, 109, 101])), Value.string (Sm.nm s)]), Value.agg (Array.mk [Value.string (ByteArray.mk (Array.mk [115, 116, 97, 116, 117, 115])), Value.string (Sm.st s)])] = [Value.agg (Array.mk [Value.string (ByteArray.mk (Array.mk [110, 97, 109, 101])), Value.string (Sm.nm s)]), Value.agg (Array.mk [Value.string (ByteArray.mk (Array.mk [115, 116, 97, 116, 117, 115])), Value.string (Sm.st s)])] ∧ ∃ (s_1 : Sm), [Value.agg (Array.mk [Value.string (ByteArray.mk (Array.mk [110, 97, 109, 101])), Value.string (Sm.nm s)]), Value.agg (Array.mk [Value.string (ByteArray.mk (Array.mk [115, 116, 97, 116, 117, 115])), Value.string (Sm.st s)])] = [Value.agg (Array.mk [Value.string (ByteArray.mk (Array.mk [110, 97, 109, 101])), Value.string (Sm.nm s_1)]), Value.agg (Array.mk [Value.string (ByteArray.mk (Array.mk [115, 116, 97, 116, 117, 115])), Value.string (Sm.st s_1)])]) ∧ Q (Value.bool Bool.true)) (Q (Value.bool Bool.false))) (Q (Value.bool Bool.false))) (Q (Value.bool Bool.false))) := by kernel_rfl
theorem jEf_nf (K : KV) (els : List Go.Value) : jEf K els = (Sp (!decide ((↑(List.length els) : Int) = (↑(List.length els) : Int))) (K (Value.bool Bool.false) (AH.mk T.leaf 0)) (HF (Value.func (Go.Fn.yield 4) (Array.mk els) (Array.mk [])) ∧ HF (Value.func (Go.Fn.yield 4) (Array.mk els) (Array.mk [])) ∧ LAt XEf 1 (Go.Func.ntmps Go.Proofs.Tryz.f15) (bodyOf Go.Proofs.Tryz.f15) [1, 1, 0, 1, 0] (finK (SX.E XEf) (Array.toList (Go.Func.results Go.Proofs.Tryz.f15)) K) (T.node (T.node (T.node (T.node (T.node T.leaf (Option.some (Value.func (Go.Fn.yield 4) (Array.mk els) (Array.mk []))) T.leaf) Option.none T.leaf) Option.none T.leaf) (Option.some (Value.func (Go.Fn.yield 4) (Array.mk els) (Array.mk []))) (T.node (T.node (T.node T.leaf (Option.some (Value.int IntKind.i64 0)) T.leaf) Option.none T.leaf) Option.none T.leaf)) Option.none (T.node (T.node (T.node (T.node T.leaf (Option.some (Value.int IntKind.i64 (↑(List.length els) : Int))) T.leaf) Option.none T.leaf) Option.none T.leaf) (Option.some (Value.func (Go.Fn.func 16) (Array.mk []) (Array.mk []))) T.leaf)) (AH.mk T.leaf 0))) := by kernel_rfl
theorem jEfS_nf (K : KV) (again : KF) (els : List Go.Value) (i : Nat) : jEfS K again els i = (Sp (decide ((↑i : Int) < (↑(List.length els) : Int))) ((0 ≤ (↑i : Int) ∧ (↑i : Int) < (↑(List.length els) : Int)) ∧ nth els (Int.toNat (↑(Int.toNat (↑i : Int)) : Int)) = Option.some (Value.agg (Array.mk [Value.int IntKind.i64 (Sm.a (smAt els (↑(Int.toNat (↑i : Int)) : Int))), Value.int IntKind.i64 (Sm.d (smAt els (↑(Int.toNat (↑i : Int)) : Int))), Value.func (Go.Fn.yield 2) (Array.mk [Value.agg (Array.mk [Value.string (ByteArray.mk (Array.mk [110, 97, 109, 101])), Value.string (Sm.nm (smAt els (↑(Int.toNat (↑i : Int)) : Int)))]), Value.agg (Array.mk [Value.string (ByteArray.mk (Array.mk [115, 116, 97, 116, 117, 115])), Value.string (Sm.st (smAt els (↑(Int.toNat (↑i : Int)) : Int)))])]) (Array.mk []), Value.bool (Sm.fl (smAt els (↑(Int.toNat (↑i : Int)) : Int)))])) ∧ (0 ≤ (↑i : Int) ∧ (↑i : Int) < (↑(List.length els) : Int)) ∧ nth els (Int.toNat (↑(Int.toNat (↑i : Int)) : Int)) = Option.some (Value.agg (Array.mk [Value.int IntKind.i64 (Sm.a (smAt els (↑(Int.toNat (↑i : Int)) : Int))), Value.int IntKind.i64 (Sm.d (smAt els (↑(Int.toNat (↑i : Int)) : Int))), Value.func (Go.Fn.yield 2) (Array.mk [Value.agg (Array.mk [Value.string (ByteArray.mk (Array.mk [110, 97, 109, 101])), Value.string (Sm.nm (smAt els (↑(Int.toNat (↑i : Int)) : Int)))]), Value.agg (Array.mk [Value.string (ByteArray.mk (Array.mk [115, 116, 97, 116, 117, 115])), Value.string (Sm.st (smAt els (↑(Int.toNat (↑i : Int)) : Int)))])]) (Array.mk []), Value.bool (Sm.fl (smAt els (↑(Int.toNat (↑i : Int)) : Int)))])) ∧ (Value.agg (Array.mk [Value.int IntKind.i64 (Sm.a (smAt els (↑(Int.toNat (↑i : Int)) : Int))), Value.int IntKind.i64 (Sm.d (smAt els (↑(Int.toNat (↑i : Int)) : Int))), Value.func (Go.Fn.yield 2) (Array.mk [Value.agg (Array.mk [Value.string (ByteArray.mk (Array.mk [110, 97, 109, 101])), Value.string (Sm.nm (smAt els (↑(Int.toNat (↑i : Int)) : Int)))]), Value.agg (Array.mk [Value.string (ByteArray.mk (Array.mk [115, 116, 97, 116, 117, 115])), Value.string (Sm.st (smAt els (↑(Int.toNat (↑i : Int)) : Int)))])]) (Array.mk []), Value.bool (Sm.fl (smAt els (↑(Int.toNat (↑i : Int)) : Int)))]) = Value.agg (Array.mk [Value.int IntKind.i64 (Sm.a (smAt els (↑(Int.toNat (↑i : Int)) : Int))), Value.int IntKind.i64 (Sm.d (smAt els (↑(Int.toNat (↑i : Int)) : Int))), Value.func (Go.Fn.yield 2) (Array.mk [Value.agg (Array.mk [Value.string (ByteArray.mk (Array.mk [110, 97, 109, 101])), Value.string (Sm.nm (smAt els (↑(Int.toNat (↑i : Int)) : Int)))]), Value.agg (Array.mk [Value.string (ByteArray.mk (Array.mk [115, 116, 97, 116, 117, 115])), Value.string (Sm.st (smAt els (↑(Int.toNat (↑i : Int)) : Int)))])]) (Array.mk []), Value.bool (Sm.fl (smAt els (↑(Int.toNat (↑i : Int)) : Int)))]) ∧ ∃ (s : Sm), Value.agg (Array.mk [Value.int IntKind.i64 (Sm.a (smAt els (↑(Int.toNat (↑i : Int)) : Int))), Value.int IntKind.i64 (Sm.d (smAt els (↑(Int.toNat (↑i : Int)) : Int))), Value.func (Go.Fn.yield 2) (Array.mk [Value.agg (Array.mk [Value.string (ByteArray.mk (Array.mk [110, 97, 109, 101])), Value.string (Sm.nm (smAt els (↑(Int.toNat (↑i : Int)) : Int)))]), Value.agg (Array.mk [Value.string (ByteArray.mk (Array.mk [115, 116, 97, 116, 117, 115])), Value.string (Sm.st (smAt els (↑(Int.toNat (↑i : Int)) : Int)))])]) (Array.mk []), Value.bool (Sm.fl (smAt els (↑(Int.toNat (↑i : Int)) : Int)))]) = Value.agg (Array.mk [Value.int IntKind.i64 (Sm.a s), Value.int IntKind.i64 (Sm.d s), Value.func (Go.Fn.yield 2) (Array.mk [Value.agg (Array.mk [Value.string (ByteArray.mk (Array.mk [110, 97, 109, 101])), Value.string (Sm.nm s)]), Value.agg (Array.mk [Value.string (ByteArray.mk (Array.mk [115, 116, 97, 116, 117, 115])), Value.string (Sm.st s)])]) (Array.mk []), Value.bool (Sm.fl s)])) ∧ HF (Value.func (Go.Fn.yield 4) (Array.mk els) (Array.mk [])) ∧ HF (Value.func (Go.Fn.yield 4) (Array.mk els) (Array.mk [])) ∧ again (T.node (T.node (T.node (T.node (T.node T.leaf (Option.some (Value.func (Go.Fn.yield 4) (Array.mk els) (Array.mk []))) T.leaf) Option.none T.leaf) Option.none T.leaf) (Option.some (Value.func (Go.Fn.yield 4) (Array.mk els) (Array.mk []))) (T.node (T.node (T.node T.leaf (Option.some (Value.int IntKind.i64 (IntKind.wrap IntKind.i64 ((↑i : Int) + 1)))) T.leaf) Option.none T.leaf) Option.none T.leaf)) Option.none (T.node (T.node (T.node (T.node T.leaf (Option.some (Value.int IntKind.i64 (↑(List.length els) : Int))) T.leaf) Option.none T.leaf) Option.none T.leaf) (Option.some (Value.func (Go.Fn.func 16) (Array.mk []) (Array.mk []))) T.leaf)) (AH.mk T.leaf 0)) (K (Value.bool Bool.true) (AH.mk T.leaf 0))) := by kernel_rfl
theorem ss_walk (s : Sm) : Walk env Proofs.Tryz.f16 [smv s, smv s] (.bool true) := by
  refine sxFn_plain XSs_ok (d := 1) (HFb _) ((jSS_nf _ _ s).mpr ?_)
  refine Sp.intro (fun _ => Sp.intro (fun _ => Sp.intro (fun _ => ⟨⟨rfl, s, rfl⟩, rfl⟩) (fun h => by simp at h)) (fun h => by simp at h)) (fun h => by simp at h)
theorem ss_tab : ∀ args A p v A', pureR ssPre ssX args A = some (p, v, A') → PH p → CallAt env 16 args A v A' := walk_tab env_ok env_gl (fn := Proofs.Tryz.f16) rfl fun args v h hp => by
  unfold ssX at h
  split at h
  · simp only [Option.some.injEq] at h
    subst h
    obtain ⟨e, s, e2⟩ := hp
    rw [← e, e2]
    exact ⟨HF.cons (HF_sm s) (HF.cons (HF_sm s) HF.nil), ss_walk s⟩
  · cases h
theorem XEf_ok : XEf.Ok := ⟨env_ok, env_sym, env_gl, .cons ss_tab .nil⟩
theorem sm_nth {l : List Sm} {i : Nat} (h : i < l.length) : nth (l.map smv) i = some (smv l[i]) := nth_map (by simp [h])
theorem sm_at {l : List Sm} {i : Nat} (h : i < l.length) : smAt (l.map smv) (i : Int) = l[i] := by
  unfold smAt at0
  rw [Int.toNat_natCast, List.getElem?_eq_getElem (by simpa using h)]
  simp only [List.getElem_map, Option.getD_some]
  rfl
theorem ef_walk (l : List Sm) (hl : l.length < 9223372036854775807) : Walk env Proofs.Tryz.f15 [dat 4 (l.map smv), dat 4 (l.map smv), fnS] (.bool true) := by
  refine sxFn_frz XEf_ok (d := 1) ((jEf_nf _ (l.map smv)).mpr ?_)
  refine Sp.intro (fun h => by simp at h) (fun _ => ⟨HF_sms l, HF_sms l, ?_⟩)
  refine LAt.step XEf_ok [] [1, 2, 15, 16, 17] 0 (by kernel_rfl) (fun k F A => ∃ i : Nat, F = frEF (l.map smv) i ∧ A = ⟨.leaf, 0⟩ ∧ i + k = l.length) ?_ (k := l.length) ⟨0, rfl, rfl, by simp⟩
  rintro k F A ⟨i, rfl, rfl, hk⟩
  refine (jEfS_nf _ _ _ i).mpr ?_
  refine Sp.intro (fun h => ?_) (fun _ => .same (HFb _))
  have hlt : i < l.length := by simpa using h
  have hb : (0 : Int) ≤ (i : Int) ∧ (i : Int) < ((l.map smv).length : Int) := ⟨by omega, by simpa using hlt⟩
  simp only [Int.toNat_natCast, sm_at hlt]
  refine ⟨hb, sm_nth hlt, hb, sm_nth hlt, ⟨trivial, l[i], rfl⟩, ?_⟩
  refine ⟨HF_sms l, HF_sms l, k - 1, by omega, i + 1, ?_, trivial, by omega⟩
  rw [idx_succ (by omega)]
  rfl
def efX : List Value → Option Value
  | [.func (.yield 4) ⟨_⟩ ⟨[]⟩, .func (.yield 4) ⟨_⟩ ⟨[]⟩, .func (.func _) ⟨[]⟩ ⟨[]⟩] => some (.bool true)
  | _ => none
def efPre : List Value → Option Prop
  | [.func (.yield 4) ⟨a⟩ ⟨[]⟩, .func (.yield 4) ⟨b⟩ ⟨[]⟩, f] => some (a = b ∧ f = fnS ∧ ∃ l : List Sm, a = l.map smv ∧ l.length < 9223372036854775807)
  | _ => none
theorem ef_tab : ∀ args A p v A', pureR efPre efX args A = some (p, v, A') → PH p → CallAt env 15 args A v A' := pureR_ok fun args v h hp A => by
  unfold efX at h
  split at h
  · simp only [Option.some.injEq] at h
    subst h
    obtain ⟨rfl, e, l, rfl, hl⟩ := hp
    rw [e]
    refine callAt_walkG env_ok (fn := Proofs.Tryz.f15) rfl (fun x hx => ?_) (ef_walk l hl) A
    simp only [List.mem_cons, List.not_mem_nil, or_false] at hx
    rcases hx with rfl | rfl | rfl
    · exact .hf (HF_sms l)
    · exact .hf (HF_sms l)
    · exact .fn _
  · cases h
end
end Go.T9
set_option maxRecDepth 1000000
set_option linter.unusedVariables false
set_option linter.unusedSimpArgs false
namespace Go.T9
open Go Go.AM Go.MK
noncomputable section
def tabLs (ts : List Ty) (vs : List Vi) : Tab := [(13, pureR (clPre ts vs) (saX ts vs)), (14, pureR (clPre ts vs) (saX ts vs)), (17, pureR (clPre ts vs) (akX ts vs)), (18, pureR (clPre ts vs) (akX ts vs)), (15, pureR efPre efX), (19, pureR eqIPre eqIX), (12, pureR (fun _ => none) ranP)]
theorem tabLs_ok (ts : List Ty) (vs : List Vi) : TabOk env (tabLs ts vs) := .cons (saW_tab ts vs) (.cons (saR_tab ts vs) (.cons (akW_tab ts vs) (.cons (akR_tab ts vs) (.cons ef_tab (.cons eqI_tab (.cons (con_tab ranP_con) .nil))))))
def XLs (ts : List Ty) (vs : List Vi) : SX := ⟨env, tabLs ts vs, noEl, fun _ => .unroll 0⟩
theorem XLs_ok (ts : List Ty) (vs : List Vi) : (XLs ts vs).Ok := ⟨env_ok, env_sym, env_gl, tabLs_ok ts vs⟩
def jLawS (K : KV) (u : Int) (ts : List Ty) (vs : List Vi) : Prop := sxFn (XLs ts vs) 1 Proofs.Tryz.f4 [logv u (ts.map tyv) (vs.map viv)] K
end
end Go.T9
set_option maxRecDepth 1000000
set_option linter.unusedVariables false
set_option linter.unusedSimpArgs false
namespace Go.T9
open Go Go.AM
noncomputable section
theorem opens_ty : Opens Proofs.Tryz.prog 59 (fun acs => ∃ x : Ty, acs = (tyv x).cells.toList) := by
  intro H enc w base sp held fuel cs x hx
  have I : Opens Proofs.Tryz.prog 3 _ := opens_int Proofs.Tryz.underlying3
  obtain ⟨acs, hR, hv⟩ := opens_struct Proofs.Tryz.underlying59 (by kernel_rfl) (.cons (by kernel_rfl) I (.cons (by kernel_rfl) I (.cons (by kernel_rfl) I (.cons (by kernel_rfl) I (.cons (by kernel_rfl) (opens_string Proofs.Tryz.underlying9) (.cons (by kernel_rfl) I (.cons (by kernel_rfl) I (.cons (by kernel_rfl) I (.cons (by kernel_rfl) I (.cons (by kernel_rfl) I (.cons (by kernel_rfl) I (.cons (by kernel_rfl) I (.cons (by kernel_rfl) I (.cons (by kernel_rfl) I (.cons (by kernel_rfl) I (.cons (by kernel_rfl) I .nil)))))))))))))))) enc w base sp held fuel cs x hx
  obtain ⟨_, _, ⟨a0, rfl, _⟩, ⟨_, _, ⟨a1, rfl, _⟩, ⟨_, _, ⟨a2, rfl, _⟩, ⟨_, _, ⟨a3, rfl, _⟩, ⟨_, _, ⟨s4, rfl, _⟩, ⟨_, _, ⟨a5, rfl, _⟩, ⟨_, _, ⟨a6, rfl, _⟩, ⟨_, _, ⟨a7, rfl, _⟩, ⟨_, _, ⟨a8, rfl, _⟩, ⟨_, _, ⟨a9, rfl, _⟩, ⟨_, _, ⟨a10, rfl, _⟩, ⟨_, _, ⟨a11, rfl, _⟩, ⟨_, _, ⟨a12, rfl, _⟩, ⟨_, _, ⟨a13, rfl, _⟩, ⟨_, _, ⟨a14, rfl, _⟩, ⟨_, _, ⟨a15, rfl, _⟩, rfl, rfl⟩, rfl⟩, rfl⟩, rfl⟩, rfl⟩, rfl⟩, rfl⟩, rfl⟩, rfl⟩, rfl⟩, rfl⟩, rfl⟩, rfl⟩, rfl⟩, rfl⟩, rfl⟩ := hR
  exact ⟨_, ⟨⟨a0, a1, a2, a3, s4, a5, a6, a7, a8, a9, a10, a11, a12, a13, a14, a15⟩, rfl⟩, hv⟩
theorem opens_vi : Opens Proofs.Tryz.prog 62 (fun acs => ∃ x : Vi, acs = (viv x).cells.toList) := by
  intro H enc w base sp held fuel cs x hx
  have I : Opens Proofs.Tryz.prog 3 _ := opens_int Proofs.Tryz.underlying3
  obtain ⟨acs, hR, hv⟩ := opens_struct Proofs.Tryz.underlying62 (by kernel_rfl) (.cons (by kernel_rfl) I (.cons (by kernel_rfl) I (.cons (by kernel_rfl) I (.cons (by kernel_rfl) I (.cons (by kernel_rfl) I (.cons (by kernel_rfl) I (.cons (by kernel_rfl) (opens_string Proofs.Tryz.underlying9) .nil))))))) enc w base sp held fuel cs x hx
  obtain ⟨_, _, ⟨a0, rfl, _⟩, ⟨_, _, ⟨a1, rfl, _⟩, ⟨_, _, ⟨a2, rfl, _⟩, ⟨_, _, ⟨a3, rfl, _⟩, ⟨_, _, ⟨a4, rfl, _⟩, ⟨_, _, ⟨a5, rfl, _⟩, ⟨_, _, ⟨s6, rfl, _⟩, rfl, rfl⟩, rfl⟩, rfl⟩, rfl⟩, rfl⟩, rfl⟩, rfl⟩ := hR
  exact ⟨_, ⟨⟨a0, a1, a2, a3, a4, a5, s6⟩, rfl⟩, hv⟩
theorem opens_tys : Opens Proofs.Tryz.prog 22 (fun acs => ∃ xs : List Ty, acs = [dat 16 (xs.map tyv)] ∧ xs.length ≤ maxLen) :=
  opens_slice (sz := 16) (ev := tyv) Proofs.Tryz.underlying22 (by kernel_rfl) (by decide) (fun _ => rfl) opens_ty (fun _ h => h)
theorem opens_vis : Opens Proofs.Tryz.prog 23 (fun acs => ∃ xs : List Vi, acs = [dat 7 (xs.map viv)] ∧ xs.length ≤ maxLen) :=
  opens_slice (sz := 7) (ev := viv) Proofs.Tryz.underlying23 (by kernel_rfl) (by decide) (fun _ => rfl) opens_vi (fun _ h => h)
theorem opens_log : Opens Proofs.Tryz.prog 25 (fun acs => ∃ (u : Int) (ts : List Ty) (vs : List Vi), .agg ⟨acs⟩ = logv u (ts.map tyv) (vs.map viv)) := by
  intro H enc w base sp held fuel cs x hx
  obtain ⟨acs, hR, hv⟩ := opens_struct Proofs.Tryz.underlying25 (by kernel_rfl) (.cons (by kernel_rfl) (opens_int Proofs.Tryz.underlying3) (.cons (by kernel_rfl) opens_tys (.cons (by kernel_rfl) opens_vis .nil))) enc w base sp held fuel cs x hx
  obtain ⟨_, _, ⟨a, rfl, _⟩, ⟨_, _, ⟨ts, rfl, _⟩, ⟨_, _, ⟨vs, rfl, _⟩, rfl, rfl⟩, rfl⟩, rfl⟩ := hR
  exact ⟨_, ⟨a, ts, vs, rfl⟩, hv⟩
theorem arg_log {H : Type} {enc : TypeId × Value → H} {w : World} {r : Reach} {b0 base : Nat} {sp : Nat → Bool} {held : Bool} {v : Value} {d : DataW H} {ps : List MemPlace} (hv : Value.okWide Proofs.Tryz.prog w r b0 25 v) (hT : DataW.Trod enc Proofs.Tryz.prog w base sp held 25 v d ps) : ∃ (u : Int) (ts : List Ty) (vs : List Vi), VR (sig0 w) (logv u (ts.map tyv) (vs.map viv)) v := by
  obtain ⟨acs, ⟨u, ts, vs, hp⟩, h⟩ := arg_struct Proofs.Tryz.underlying25 opens_log hv hT
  exact ⟨u, ts, vs, hp ▸ h⟩
end
end Go.T9
set_option maxRecDepth 1000000
set_option linter.unusedVariables false
set_option linter.unusedSimpArgs false
namespace Go.T9
open Go Go.AM Go.MK
noncomputable section
theorem jLawS_nf (K : KV) (u : Int) (ts : List Ty) (vs : List Vi) : jLawS K u ts vs = ((List.map tyv ts = List.map tyv ts ∧ List.map viv vs = List.map viv vs) ∧ (List.map tyv ts = List.map tyv ts ∧ List.map viv vs = List.map viv vs) ∧ Sp (!decide (logE u ts vs = logE u ts vs)) (K (Value.bool Bool.false) (AH.mk (T.node T.leaf (Option.some (AObj.cells [Value.int IntKind.i64 u, Value.func (Go.Fn.yield 16) (Array.mk (List.map tyv ts)) (Array.mk []), Value.func (Go.Fn.yield 7) (Array.mk (List.map viv vs)) (Array.mk [])] 25)) T.leaf) 1)) ((List.map smv (saO u ts vs) = List.map smv (saO u ts vs) ∧ Value.func (Go.Fn.func 16) (Array.mk []) (Array.mk []) = Value.func (Go.Fn.func 16) (Array.mk []) (Array.mk []) ∧ ∃ (l : List Sm), List.map smv (saO u ts vs) = List.map smv l ∧ List.length l < 9223372036854775807) ∧ (List.map tyv ts = List.map tyv ts ∧ List.map viv vs = List.map viv vs) ∧ (List.map tyv ts = List.map tyv ts ∧ List.map viv vs = List.map viv vs) ∧ Sp (decide (logE u ts vs = logE u ts vs)) ((List.map (Value.int IntKind.i64) (asO u ts vs) = List.map (Value.int IntKind.i64) (asO u ts vs) ∧ ∃ (l : List Int), List.map (Value.int IntKind.i64) (asO u ts vs) = List.map (Value.int IntKind.i64) l ∧ List.length l < 9223372036854775807) ∧ K (Value.bool Bool.true) (AH.mk (T.node T.leaf (Option.some (AObj.cells [Value.int IntKind.i64 u, Value.func (Go.Fn.yield 16) (Array.mk (List.map tyv ts)) (Array.mk []), Value.func (Go.Fn.yield 7) (Array.mk (List.map viv vs)) (Array.mk [])] 25)) T.leaf) 1)) (K (Value.bool Bool.false) (AH.mk (T.node T.leaf (Option.some (AObj.cells [Value.int IntKind.i64 u, Value.func (Go.Fn.yield 16) (Array.mk (List.map tyv ts)) (Array.mk []), Value.func (Go.Fn.yield 7) (Array.mk (List.map viv vs)) (Array.mk [])] 25)) T.leaf) 1)))) := by kernel_rfl
theorem run2_len (m1 m2 : M3) : ∀ (ts : List Ty) (i : Nat) (o : List Sm), (run2 m1 m2 ts i o).length ≤ o.length + ts.length
  | [], i, o => by simp [run2]
  | x :: ts, i, o => by
    have h1 := run2_len m1 m2 ts (i + 1) (st2 m1 m2 o x i)
    have h2 := st2_len m1 m2 o x i
    simp only [run2, List.length_cons]
    omega
theorem askL_len : ∀ ts : List Ty, (askL ts).length ≤ ts.length
  | [] => by simp [askL]
  | x :: ts => by
    have h := askL_len ts
    simp only [askL]
    cases decide (x.y = 0) <;> simp <;> omega
theorem saO_len (u : Int) (ts : List Ty) (vs : List Vi) : (saO u ts vs).length < 9223372036854775807 := by
  unfold saO
  cases h : decide (logE u ts vs = 0) with
  | true =>
    have h1 := (logE0 (of_decide_eq_true h)).1
    have h2 := run2_len (run1 ts 0 [] []).1 (run1 ts 0 [] []).2 ts 0 []
    simp only [cond_true, sampL]
    simp only [List.length_nil] at h2
    omega
  | false => simp
theorem asO_len (u : Int) (ts : List Ty) (vs : List Vi) : (asO u ts vs).length < 9223372036854775807 := by
  unfold asO
  cases h : decide (logE u ts vs = 0) with
  | true =>
    have h1 := (logE0 (of_decide_eq_true h)).1
    have h2 := askL_len ts
    simp only [cond_true]
    omega
  | false => simp
theorem lawS_walk (u : Int) (ts : List Ty) (vs : List Vi) : Walk env Proofs.Tryz.f4 [logv u (ts.map tyv) (vs.map viv)] (.bool true) := by
  refine sxFn_frz (XLs_ok ts vs) (d := 1) ((jLawS_nf _ u ts vs).mpr ?_)
  refine ⟨⟨rfl, rfl⟩, ⟨rfl, rfl⟩, Sp.intro (fun h => by simp at h) (fun _ => ⟨⟨rfl, rfl, saO u ts vs, rfl, saO_len u ts vs⟩, ⟨rfl, rfl⟩, ⟨rfl, rfl⟩, Sp.intro (fun _ => ⟨⟨rfl, asO u ts vs, rfl, asO_len u ts vs⟩, .same (HFb _)⟩) (fun h => by simp at h)⟩)⟩
theorem samples_law (u : Int) (ts : List Ty) (vs : List Vi) (w : World) (hgl : Glob env (sig0 w)) {v : Value} (hv : VR (sig0 w) (logv u (ts.map tyv) (vs.map viv)) v) : Calls Proofs.Tryz.prog 4 #[v] w fun e w' => e = .returned (.bool true) ∧ RowKit.Below w.heap.size w w' :=
  calls_flat (con_one env_ok env_gl (fn := Proofs.Tryz.f4) rfl (HF.cons (HF_log u ts vs) HF.nil) (lawS_walk u ts vs)) (one_self _ _) rfl w hgl (.cons hv .nil)
end
end Go.T9
set_option maxRecDepth 1000000
set_option linter.unusedVariables false
set_option linter.unusedSimpArgs false
namespace Go.T9
open Go Go.AM
noncomputable section
def powL : List Int := [1, 10, 100, 1000, 10000, 100000, 1000000, 10000000, 100000000, 1000000000, 10000000000, 100000000000, 1000000000000, 10000000000000, 100000000000000, 1000000000000000, 10000000000000000, 100000000000000000, 1000000000000000000, 10000000000000000000]
def powD : DataW Unit := .agg (powL.map fun x => .lit (.int .u64 x))
theorem pow_gl (j : Nat) (cs : List Value) (h : env.gl j = some cs) : j = 0 ∧ cs = powL.map (Value.int .u64) := by
  have h : (bif Nat.beq j 0 then some pow10 else none) = some cs := h
  cases hb : Nat.beq j 0 with
  | false => rw [hb] at h; cases h
  | true =>
    rw [hb] at h
    simp only [cond_true, Option.some.injEq] at h
    subst h
    exact ⟨Nat.eq_of_beq_eq_true hb, rfl⟩
theorem pow_named : Proofs.Tryz.prog.globalNamed "internal/strconv.uint64pow10" = some 0 := by kernel_rfl
theorem pow_type : (Proofs.Tryz.prog.globals[0]?).map (·.type) = some 322 := by kernel_rfl
theorem pow_und : Proofs.Tryz.prog.underlying 322 = some (.array 20 249) := Proofs.Tryz.underlying322
theorem glob_laid {laid : List (String × DataW Unit)} {w : World} (hm : ("internal/strconv.uint64pow10", powD) ∈ laid) (hp : (laid.all fun x => x.2.handleName?.isNone) = true) (h : laidMetH Proofs.Tryz.prog laid w) : Glob env (sig0 w) := by
  rw [MakeChecks.laidMetH_plain _ _ _ hp] at h
  exact glob_of (E := env) (ls := powL) (k := .u64) (len := 20) (e := 249) (t := 322) (g := 0) pow_gl hm h pow_named pow_type pow_und Proofs.Tryz.underlying249 (by kernel_rfl) rfl (by decide)
end
end Go.T9
