/- A part of the proof. -/
import Derived.Test.YtibbcafgmjcilaaGreatDoorU1
import Derived.KernelRfl
import Derived.Test.YtibbcafgmjcilaaGreatDoorC
set_option maxRecDepth 1000000
set_option linter.unusedVariables false
set_option linter.unusedSimpArgs false
set_option maxHeartbeats 4000000
namespace Go.T9
open Go Go.AM Go.MK
noncomputable section
def jRl (K : KV) (c : Int) : Prop := sxFn XJ0 1 Proofs.Tryz.f52 [.int .u8 c] K
end
end Go.T9
set_option maxRecDepth 1000000
set_option linter.unusedVariables false
set_option linter.unusedSimpArgs false
set_option maxHeartbeats 4000000
namespace Go.T9
open Go Go.AM Go.MK
noncomputable section
theorem jRl_nf (K : KV) (c : Int) : jRl K c = (Sp (decide ((97 : Int) ≤ c)) (Sp (decide (c ≤ (122 : Int))) (K (Value.bool Bool.true) (AH.mk T.leaf (0 : Nat))) (Sp (decide ((65 : Int) ≤ c)) (K (Value.bool (decide (c ≤ (90 : Int)))) (AH.mk T.leaf (0 : Nat))) (K (Value.bool Bool.false) (AH.mk T.leaf (0 : Nat))))) (Sp (decide ((65 : Int) ≤ c)) (K (Value.bool (decide (c ≤ (90 : Int)))) (AH.mk T.leaf (0 : Nat))) (K (Value.bool Bool.false) (AH.mk T.leaf (0 : Nat))))) := by kernel_rfl
theorem rl_walk (c : Int) : Walk env Proofs.Tryz.f52 [.int .u8 c] (.bool (lB c)) := by
  refine sxFn_frz XJ0_ok (d := 1) ((jRl_nf _ c).mpr ?_)
  unfold lB
  cases decide (97 ≤ c) <;> cases decide (c ≤ 122) <;> cases decide (65 ≤ c) <;> cases decide (c ≤ 90) <;> exact Frz.same (HFb _)
theorem rl_con : Con env 52 (pureX lbX) := con_pure env_ok env_gl (fn := Proofs.Tryz.f52) rfl fun args v h => by
  unfold lbX at h
  split at h
  · simp only [Option.some.injEq] at h
    subst h
    exact ⟨HF.cons (.scal rfl) HF.nil, rl_walk _⟩
  · cases h
def tabK1 : Tab := [(52, pureR (fun _ => none) lbX)]
theorem tabK1_ok : TabOk env tabK1 := .cons (con_tab rl_con) .nil
def XK1 : SX := ⟨env, tabK1, noEl, fun _ => .unroll 0⟩
theorem XK1_ok : XK1.Ok := ⟨env_ok, env_sym, env_gl, tabK1_ok⟩
def jRw (K : KV) (c : Int) : Prop := sxFn XK1 3 Proofs.Tryz.f51 [.int .u8 c] K
end
end Go.T9
set_option maxRecDepth 1000000
set_option linter.unusedVariables false
set_option linter.unusedSimpArgs false
set_option maxHeartbeats 4000000
namespace Go.T9
open Go Go.AM Go.MK
noncomputable section
theorem jRw_nf (K : KV) (c : Int) : jRw K c = (Sp (lB c) (K (Value.bool Bool.true) (AH.mk T.leaf (0 : Nat))) (Sp (decide ((48 : Int) ≤ c)) (Sp (decide (c ≤ (57 : Int))) (K (Value.bool Bool.true) (AH.mk T.leaf (0 : Nat))) (Sp (decide (c = (95 : Int))) (K (Value.bool Bool.true) (AH.mk T.leaf (0 : Nat))) (K (Value.bool (decide (c = (45 : Int)))) (AH.mk T.leaf (0 : Nat))))) (Sp (decide (c = (95 : Int))) (K (Value.bool Bool.true) (AH.mk T.leaf (0 : Nat))) (K (Value.bool (decide (c = (45 : Int)))) (AH.mk T.leaf (0 : Nat)))))) := by kernel_rfl
theorem rw_walk (c : Int) : Walk env Proofs.Tryz.f51 [.int .u8 c] (.bool (wB c)) := by
  refine sxFn_frz XK1_ok (d := 3) ((jRw_nf _ c).mpr ?_)
  unfold wB dB
  cases lB c <;> cases decide (48 ≤ c) <;> cases decide (c ≤ 57) <;> cases decide (c = 95) <;> cases decide (c = 45) <;> exact Frz.same (HFb _)
theorem rw_con : Con env 51 (pureX wbX) := con_pure env_ok env_gl (fn := Proofs.Tryz.f51) rfl fun args v h => by
  unfold wbX at h
  split at h
  · simp only [Option.some.injEq] at h
    subst h
    exact ⟨HF.cons (.scal rfl) HF.nil, rw_walk _⟩
  · cases h
def tabK2 : Tab := [(52, pureR (fun _ => none) lbX), (51, pureR (fun _ => none) wbX)]
theorem tabK2_ok : TabOk env tabK2 := .cons (con_tab rl_con) (.cons (con_tab rw_con) .nil)
def XK2 : SX := ⟨env, tabK2, noEl, fun _ => .auto [] [0, 3]⟩
theorem XK2_ok : XK2.Ok := ⟨env_ok, env_sym, env_gl, tabK2_ok⟩
def frIs (s : ByteArray) (i : Nat) : T Value := (.node (.node (.node .leaf (some (.int .i64 i)) .leaf) none .leaf) (some (.string s)) .leaf)
def jIs (Q : Value → Prop) (QA : KV) (s : ByteArray) : Prop := sxFn XK2 1 Proofs.Tryz.f27 [.string s] (leafK Q QA)
def jIs1 (Q : Value → Prop) (QA : KV) (again : KF) (s : ByteArray) (i : Nat) : Prop := sxStepA XK2 1 Proofs.Tryz.f27 [1, 0, 1, 0] (leafK Q QA) [] [0, 3] again (frIs s i) ⟨.leaf, 0⟩
end
end Go.T9
set_option maxRecDepth 1000000
set_option linter.unusedVariables false
set_option linter.unusedSimpArgs false
set_option maxHeartbeats 4000000
namespace Go.T9
open Go Go.AM Go.MK
noncomputable section
theorem jIs_nf (Q : Go.Value → Prop) (QA : KV) (s : ByteArray) : jIs Q QA s = (LAt XK2 (1 : Nat) (Go.Func.ntmps Go.Proofs.Tryz.f27) (bodyOf Go.Proofs.Tryz.f27) [(1 : Nat), (0 : Nat), (1 : Nat), (0 : Nat)] (finK (SX.E XK2) (Array.toList (Go.Func.results Go.Proofs.Tryz.f27)) (leafK Q QA)) (T.node (T.node (T.node T.leaf (Option.some (Value.int IntKind.i64 (0 : Int))) T.leaf) Option.none T.leaf) (Option.some (Value.string s)) T.leaf) (AH.mk T.leaf (0 : Nat))) := by kernel_rfl
theorem jIs1_nf (Q : Go.Value → Prop) (QA : KV) (again : KF) (s : ByteArray) (i : Nat) : jIs1 Q QA again s i = (Sp (decide ((↑i : Int) < (↑(ByteArray.size s) : Int))) (((0 : Int) ≤ (↑i : Int) ∧ (↑i : Int) < (↑(ByteArray.size s) : Int)) ∧ Sp (!wB (byteAt s (↑i : Int))) (Q (Value.bool Bool.false)) (again (T.node (T.node (T.node T.leaf (Option.some (Value.int IntKind.i64 (IntKind.wrap IntKind.i64 ((↑i : Int) + (1 : Int))))) T.leaf) Option.none T.leaf) (Option.some (Value.string s)) T.leaf) (AH.mk T.leaf (0 : Nat)))) (Sp (decide ((1 : Int) ≤ (↑(ByteArray.size s) : Int))) (Sp (decide ((↑(ByteArray.size s) : Int) ≤ (50 : Int))) (((0 : Int) ≤ (0 : Int) ∧ (0 : Int) < (↑(ByteArray.size s) : Int)) ∧ Q (Value.bool (lB (byteAt s (0 : Int))))) (Q (Value.bool Bool.false))) (Q (Value.bool Bool.false)))) := by kernel_rfl
theorem is_loop (Q : Value → Prop) (QA : KV) (s : ByteArray) (hs : s.size < 9223372036854775808) (hQ : Q (.bool (nameB s))) :
    LAt XK2 1 (Func.ntmps Proofs.Tryz.f27) (bodyOf Proofs.Tryz.f27) [1, 0, 1, 0] (finK XK2.E (Proofs.Tryz.f27.results).toList (leafK Q QA)) (frIs s 0) ⟨.leaf, 0⟩ := by
  have hsz : s.data.toList.length = s.size := by simp
  refine LAt.stepA XK2_ok [] [0, 3] (by kernel_rfl) (fun k F A => ∃ i : Nat, F = frIs s i ∧ A = ⟨.leaf, 0⟩ ∧ i + k = s.size ∧ s.data.toList.all (fun b => wB b.toNat) = (s.data.toList.drop i).all (fun b => wB b.toNat)) ?_ (k := s.size) ⟨0, rfl, rfl, by simp, by simp⟩
  rintro k F A ⟨i, rfl, rfl, hk, hall⟩
  refine (jIs1_nf _ _ _ s i).mpr ?_
  refine Sp.intro (fun c => ?_) (fun c => ?_)
  · have hlt : i < s.size := by simpa using c
    have hl : i < s.data.toList.length := by omega
    have hw : IntKind.i64.wrap ((i : Int) + 1) = ((i + 1 : Nat) : Int) := by rw [i64_in (by omega) (by omega)]; rfl
    rw [List.drop_eq_getElem_cons hl, List.all_cons] at hall
    simp only [byteAt_in hl, hw]
    refine ⟨by omega, Sp.intro (fun h => ?_) (fun h => ⟨k - 1, by omega, i + 1, rfl, by first | trivial | rfl, by omega, ?_⟩)⟩
    · have h0 : wB (s.data.toList[i].toNat : Int) = false := by simpa using h
      have : nameB s = false := by unfold nameB; rw [hall, h0]; rfl
      rw [this] at hQ; exact hQ
    · have h0 : wB (s.data.toList[i].toNat : Int) = true := by simpa using h
      rw [hall, h0]; rfl
  · have hn : s.data.toList.drop i = [] := List.drop_eq_nil_of_le (by simp at c; omega)
    rw [hn] at hall
    have hall : s.data.toList.all (fun b => wB b.toNat) = true := hall
    refine Sp.intro (fun h => Sp.intro (fun h2 => ?_) (fun h2 => ?_)) (fun h => ?_)
    · have h1 : 1 ≤ s.size := by simp at h; omega
      have e : nameB s = lB (byteAt s 0) := by unfold nameB; rw [hall]; simp [h1, show s.size ≤ 50 by simp at h2; omega]
      rw [e] at hQ
      exact ⟨by omega, hQ⟩
    · have e : nameB s = false := by unfold nameB; simp [show ¬ s.size ≤ 50 by simp at h2; omega]
      rw [e] at hQ; exact hQ
    · have e : nameB s = false := by unfold nameB; simp [show ¬ 1 ≤ s.size by simp at h; omega]
      rw [e] at hQ; exact hQ
theorem is_walk (s : ByteArray) (hs : s.size < 9223372036854775808) : Walk env Proofs.Tryz.f27 [.string s] (.bool (nameB s)) := by
  refine sxFn_plain XK2_ok (d := 1) (HFb _) ((jIs_nf _ _ s).mpr ?_)
  exact is_loop _ _ s hs rfl
theorem is_tab : ∀ args A p v A', pureR nmPre nmX args A = some (p, v, A') → PH p → CallAt env 27 args A v A' := walk_tab env_ok env_gl (fn := Proofs.Tryz.f27) rfl fun args v h hp => by
  unfold nmX at h
  split at h
  · simp only [Option.some.injEq] at h
    subst h
    exact ⟨HF.cons (.scal rfl) HF.nil, is_walk _ hp⟩
  · cases h
def tabK3 : Tab := [(27, pureR nmPre nmX)]
theorem tabK3_ok : TabOk env tabK3 := .cons is_tab .nil
def elG : El := El.of (fun sz t els i => bif Nat.beq t 69 then some (dat 1 (rowAt els i)) else some (.string (strAt els i)))
def XG : SX := ⟨env, tabK3, elG, fun k => bif Nat.beq k 8 then .autoN [] [] [32] [1, 40, 41, 42] else bif Nat.beq k 13 then .autoN [] [] [32] [1, 4, 40, 41, 42, 53, 54, 55] else bif Nat.beq k 20 then .autoN [] [] [32] [1, 65, 66, 67] else .autoN [] [] [32] [1, 65, 66, 67, 77, 78, 79]⟩
theorem XG_ok : XG.Ok := ⟨env_ok, env_sym, env_gl, tabK3_ok⟩
def frG1 (cols : List Value) (i : Nat) : T Value := (.node (.node .leaf (some (.pointer (some ⟨0, 0, none⟩))) (.node (.node .leaf none (.node (.node .leaf (some (.int .i64 cols.length)) .leaf) none .leaf)) none .leaf)) none (.node (.node (.node .leaf none (.node (.node .leaf (some (dat 1 cols)) .leaf) none .leaf)) none .leaf) none (.node (.node .leaf none (.node (.node .leaf (some (.int .i64 i)) .leaf) none .leaf)) none .leaf)))
def frG2 (cols : List Value) (i : Nat) (c : SB) (pre : List Value) (j : Nat) : T Value := (.node (.node (.node (.node .leaf none (.node .leaf none (.node .leaf (some (.int .i64 j)) .leaf))) none .leaf) (some (.pointer (some ⟨0, 0, none⟩))) (.node (.node .leaf none (.node (.node .leaf (some (.int .i64 cols.length)) .leaf) none .leaf)) none (.node (.node .leaf none (.node .leaf (some (dat 1 pre)) .leaf)) none .leaf))) none (.node (.node (.node .leaf none (.node (.node .leaf (some (dat 1 cols)) .leaf) none .leaf)) (some (.string c)) .leaf) none (.node (.node .leaf none (.node (.node .leaf (some (.int .i64 i)) .leaf) none .leaf)) none (.node (.node .leaf none (.node .leaf (some (.int .i64 pre.length)) .leaf)) none .leaf))))
def frG3 (rows : List Value) (i : Nat) : T Value := (.node (.node (.node .leaf none (.node (.node (.node (.node .leaf (some (.int .i64 i)) .leaf) none .leaf) none .leaf) none .leaf)) (some (.pointer (some ⟨0, 0, none⟩))) (.node (.node (.node (.node (.node .leaf (some (dat 1 rows)) .leaf) none .leaf) none .leaf) none .leaf) none .leaf)) none (.node .leaf none (.node (.node (.node (.node (.node .leaf (some (.int .i64 rows.length)) .leaf) none .leaf) none .leaf) none .leaf) none .leaf)))
def frG4 (rows : List Value) (i : Nat) (r : List Value) (j : Nat) : T Value := (.node (.node (.node (.node (.node .leaf none (.node (.node .leaf (some (.int .i64 j)) .leaf) none .leaf)) none .leaf) none (.node (.node (.node (.node .leaf (some (.int .i64 i)) .leaf) none .leaf) none .leaf) none .leaf)) (some (.pointer (some ⟨0, 0, none⟩))) (.node (.node (.node (.node (.node .leaf (some (dat 1 rows)) .leaf) none .leaf) none .leaf) none .leaf) none (.node .leaf none (.node (.node (.node .leaf (some (dat 1 r)) .leaf) none .leaf) none .leaf)))) none (.node .leaf none (.node (.node (.node (.node (.node .leaf (some (.int .i64 rows.length)) .leaf) none .leaf) none .leaf) none .leaf) none (.node .leaf none (.node (.node (.node .leaf (some (.int .i64 r.length)) .leaf) none .leaf) none .leaf)))))
def ntG : Nat := Func.ntmps Proofs.Tryz.f28
def bdG : Code := bodyOf Proofs.Tryz.f28
def kFinG (K : KV) : KX := finK XG.E (Proofs.Tryz.f28.results).toList K
def jFf (K : KV) (n : SB) (m : Int) (cols rows : List Value) : Prop := sxFnZ XG 1 Proofs.Tryz.f28 [fdv n m cols rows] ⟨.leaf, 0⟩ K
def cG1 : Code := loopBody (subC [1, 1, 1, 1, 0, 1, 0] bdG)
def kG1 (K : KV) (again : KF) : KX := stepZ XG 1 ntG ⟨.leaf, 0⟩ bdG [1, 1, 1, 1, 0, 1, 0] (kFinG K) [] [] [32] [1, 40, 41, 42] again
def jFf1 (K : KV) (again : KF) (n : SB) (m : Int) (cols rows : List Value) (i : Nat) : Prop := sxStepZ XG 1 ntG ⟨.leaf, 0⟩ bdG [1, 1, 1, 1, 0, 1, 0] (kFinG K) [] [] [32] [1, 40, 41, 42] again (frG1 cols i) (hF0 n m cols rows)
def jFf2 (K : KV) (again0 again : KF) (n : SB) (m : Int) (cols rows : List Value) (i : Nat) (c : SB) (pre : List Value) (j : Nat) : Prop := sxStepZ XG 1 ntG ⟨.leaf, 0⟩ cG1 [1, 1, 0, 0, 1, 1, 1, 0] (kG1 K again0) [] [] [32] [1, 4, 40, 41, 42, 53, 54, 55] again (frG2 cols i c pre j) (hF0 n m cols rows)
def cG3 : Code := loopBody (subC [1, 1, 1, 1, 1, 0, 1, 0] bdG)
def kG3 (K : KV) (again : KF) : KX := stepZ XG 1 ntG ⟨.leaf, 0⟩ bdG [1, 1, 1, 1, 1, 0, 1, 0] (kFinG K) [] [] [32] [1, 65, 66, 67] again
def jFf3 (K : KV) (again : KF) (n : SB) (m : Int) (cols rows : List Value) (i : Nat) : Prop := sxStepZ XG 1 ntG ⟨.leaf, 0⟩ bdG [1, 1, 1, 1, 1, 0, 1, 0] (kFinG K) [] [] [32] [1, 65, 66, 67] again (frG3 rows i) (hF0 n m cols rows)
def jFf4 (K : KV) (again0 again : KF) (n : SB) (m : Int) (cols rows : List Value) (i : Nat) (r : List Value) (j : Nat) : Prop := sxStepZ XG 1 ntG ⟨.leaf, 0⟩ cG3 [1, 1, 0, 0, 1, 1, 1, 0] (kG3 K again0) [] [] [32] [1, 65, 66, 67, 77, 78, 79] again (frG4 rows i r j) (hF0 n m cols rows)
end
end Go.T9
set_option maxRecDepth 1000000
set_option linter.unusedVariables false
set_option linter.unusedSimpArgs false
set_option maxHeartbeats 4000000
namespace Go.T9
open Go Go.AM Go.MK
noncomputable section
theorem jFf_nf (K : KV) (n : SB) (m : Int) (cols : List Go.Value) (rows : List Go.Value) : jFf K n m cols rows = (Sp (!decide (m = (1 : Int))) (Sp (!decide (m = (2 : Int))) (K (Value.int IntKind.i64 (7 : Int)) (AH.mk (T.node T.leaf (Option.some (AObj.cells [Value.string n, Value.int IntKind.i64 m, Value.func (Go.Fn.yield (1 : Nat)) (Array.mk cols) (Array.mk []), Value.func (Go.Fn.yield (1 : Nat)) (Array.mk rows) (Array.mk [])] (32 : Nat))) T.leaf) (1 : Nat))) (Sp (decide ((↑(List.length cols) : Int) = (0 : Int))) (K (Value.int IntKind.i64 (13 : Int)) (AH.mk (T.node T.leaf (Option.some (AObj.cells [Value.string n, Value.int IntKind.i64 m, Value.func (Go.Fn.yield (1 : Nat)) (Array.mk cols) (Array.mk []), Value.func (Go.Fn.yield (1 : Nat)) (Array.mk rows) (Array.mk [])] (32 : Nat))) T.leaf) (1 : Nat))) (Sp (decide ((↑(List.length rows) : Int) = (0 : Int))) (K (Value.int IntKind.i64 (13 : Int)) (AH.mk (T.node T.leaf (Option.some (AObj.cells [Value.string n, Value.int IntKind.i64 m, Value.func (Go.Fn.yield (1 : Nat)) (Array.mk cols) (Array.mk []), Value.func (Go.Fn.yield (1 : Nat)) (Array.mk rows) (Array.mk [])] (32 : Nat))) T.leaf) (1 : Nat))) (Sp (decide ((20 : Int) < (↑(List.length cols) : Int))) (K (Value.int IntKind.i64 (3 : Int)) (AH.mk (T.node T.leaf (Option.some (AObj.cells [Value.string n, Value.int IntKind.i64 m, Value.func (Go.Fn.yield (1 : Nat)) (Array.mk cols) (Array.mk []), Value.func (Go.Fn.yield (1 : Nat)) (Array.mk rows) (Array.mk [])] (32 : Nat))) T.leaf) (1 : Nat))) (Sp (decide ((10000 : Int) < (↑(List.length rows) : Int))) (K (Value.int IntKind.i64 (3 : Int)) (AH.mk (T.node T.leaf (Option.some (AObj.cells [Value.string n, Value.int IntKind.i64 m, Value.func (Go.Fn.yield (1 : Nat)) (Array.mk cols) (Array.mk []), Value.func (Go.Fn.yield (1 : Nat)) (Array.mk rows) (Array.mk [])] (32 : Nat))) T.leaf) (1 : Nat))) (HF (Value.func (Go.Fn.yield (1 : Nat)) (Array.mk cols) (Array.mk [])) ∧ HF (Value.agg (Array.mk [Value.string n, Value.int IntKind.i64 m, Value.func (Go.Fn.yield (1 : Nat)) (Array.mk cols) (Array.mk []), Value.func (Go.Fn.yield (1 : Nat)) (Array.mk rows) (Array.mk [])])) ∧ LAtZ XG (1 : Nat) (Go.Func.ntmps Go.Proofs.Tryz.f28) (AH.mk (AH.t (AH.mk T.leaf (0 : Nat))) (0 : Nat)) (bodyOf Go.Proofs.Tryz.f28) [(1 : Nat), (1 : Nat), (1 : Nat), (1 : Nat), (0 : Nat), (1 : Nat), (0 : Nat)] (finK (SX.E XG) (Array.toList (Go.Func.results Go.Proofs.Tryz.f28)) K) (T.node (T.node T.leaf (Option.some (Value.pointer (Option.some (Go.Addr.mk (0 : Nat) (0 : Nat) Option.none)))) (T.node (T.node T.leaf Option.none (T.node (T.node T.leaf (Option.some (Value.int IntKind.i64 (↑(List.length cols) : Int))) T.leaf) Option.none T.leaf)) Option.none T.leaf)) Option.none (T.node (T.node (T.node T.leaf Option.none (T.node (T.node T.leaf (Option.some (Value.func (Go.Fn.yield (1 : Nat)) (Array.mk cols) (Array.mk []))) T.leaf) Option.none T.leaf)) Option.none T.leaf) Option.none (T.node (T.node T.leaf Option.none (T.node (T.node T.leaf (Option.some (Value.int IntKind.i64 (0 : Int))) T.leaf) Option.none T.leaf)) Option.none T.leaf))) (AH.mk (T.node T.leaf (Option.some (AObj.cells [Value.string n, Value.int IntKind.i64 m, Value.func (Go.Fn.yield (1 : Nat)) (Array.mk cols) (Array.mk []), Value.func (Go.Fn.yield (1 : Nat)) (Array.mk rows) (Array.mk [])] (32 : Nat))) T.leaf) (1 : Nat)))))))) (Sp (decide ((↑(List.length cols) : Int) = (0 : Int))) (K (Value.int IntKind.i64 (13 : Int)) (AH.mk (T.node T.leaf (Option.some (AObj.cells [Value.string n, Value.int IntKind.i64 m, Value.func (Go.Fn.yield (1 : Nat)) (Array.mk cols) (Array.mk []), Value.func (Go.Fn.yield (1 : Nat)) (Array.mk rows) (Array.mk [])] (32 : Nat))) T.leaf) (1 : Nat))) (Sp (decide ((↑(List.length rows) : Int) = (0 : Int))) (K (Value.int IntKind.i64 (13 : Int)) (AH.mk (T.node T.leaf (Option.some (AObj.cells [Value.string n, Value.int IntKind.i64 m, Value.func (Go.Fn.yield (1 : Nat)) (Array.mk cols) (Array.mk []), Value.func (Go.Fn.yield (1 : Nat)) (Array.mk rows) (Array.mk [])] (32 : Nat))) T.leaf) (1 : Nat))) (Sp (decide ((20 : Int) < (↑(List.length cols) : Int))) (K (Value.int IntKind.i64 (3 : Int)) (AH.mk (T.node T.leaf (Option.some (AObj.cells [Value.string n, Value.int IntKind.i64 m, Value.func (Go.Fn.yield (1 : Nat)) (Array.mk cols) (Array.mk []), Value.func (Go.Fn.yield (1 : Nat)) (Array.mk rows) (Array.mk [])] (32 : Nat))) T.leaf) (1 : Nat))) (Sp (decide ((10000 : Int) < (↑(List.length rows) : Int))) (K (Value.int IntKind.i64 (3 : Int)) (AH.mk (T.node T.leaf (Option.some (AObj.cells [Value.string n, Value.int IntKind.i64 m, Value.func (Go.Fn.yield (1 : Nat)) (Array.mk cols) (Array.mk []), Value.func (Go.Fn.yield (1 : Nat)) (Array.mk rows) (Array.mk [])] (32 : Nat))) T.leaf) (1 : Nat))) (HF (Value.func (Go.Fn.yield (1 : Nat)) (Array.mk cols) (Array.mk [])) ∧ HF (Value.agg (Array.mk [Value.string n, Value.int IntKind.i64 m, Value.func (Go.Fn.yield (1 : Nat)) (Array.mk cols) (Array.mk []), Value.func (Go.Fn.yield (1 : Nat)) (Array.mk rows) (Array.mk [])])) ∧ LAtZ XG (1 : Nat) (Go.Func.ntmps Go.Proofs.Tryz.f28) (AH.mk (AH.t (AH.mk T.leaf (0 : Nat))) (0 : Nat)) (bodyOf Go.Proofs.Tryz.f28) [(1 : Nat), (1 : Nat), (1 : Nat), (1 : Nat), (0 : Nat), (1 : Nat), (0 : Nat)] (finK (SX.E XG) (Array.toList (Go.Func.results Go.Proofs.Tryz.f28)) K) (T.node (T.node T.leaf (Option.some (Value.pointer (Option.some (Go.Addr.mk (0 : Nat) (0 : Nat) Option.none)))) (T.node (T.node T.leaf Option.none (T.node (T.node T.leaf (Option.some (Value.int IntKind.i64 (↑(List.length cols) : Int))) T.leaf) Option.none T.leaf)) Option.none T.leaf)) Option.none (T.node (T.node (T.node T.leaf Option.none (T.node (T.node T.leaf (Option.some (Value.func (Go.Fn.yield (1 : Nat)) (Array.mk cols) (Array.mk []))) T.leaf) Option.none T.leaf)) Option.none T.leaf) Option.none (T.node (T.node T.leaf Option.none (T.node (T.node T.leaf (Option.some (Value.int IntKind.i64 (0 : Int))) T.leaf) Option.none T.leaf)) Option.none T.leaf))) (AH.mk (T.node T.leaf (Option.some (AObj.cells [Value.string n, Value.int IntKind.i64 m, Value.func (Go.Fn.yield (1 : Nat)) (Array.mk cols) (Array.mk []), Value.func (Go.Fn.yield (1 : Nat)) (Array.mk rows) (Array.mk [])] (32 : Nat))) T.leaf) (1 : Nat)))))))) := by kernel_rfl
theorem jFf1_nf (K : KV) (again : KF) (n : SB) (m : Int) (cols : List Go.Value) (rows : List Go.Value) (i : Nat) : jFf1 K again n m cols rows i = (Sp (decide ((↑i : Int) < (↑(List.length cols) : Int)))
  (((0 : Int) ≤ (↑i : Int) ∧ (↑i : Int) < (↑(List.length cols) : Int)) ∧
    nth cols (Int.toNat (↑(Int.toNat (↑i : Int)) : Int)) =
        Option.some
          (Value.string
            (match nth cols (Int.toNat (↑(Int.toNat (↑i : Int)) : Int)) with
            | Option.some (Value.string s) => s
            | x => ByteArray.empty)) ∧
      ByteArray.size (strAt cols (↑(Int.toNat (↑i : Int)) : Int)) < (9223372036854775808 : Nat) ∧
        Sp (!nameB (strAt cols (↑(Int.toNat (↑i : Int)) : Int))) (K (Value.int IntKind.i64 (8 : Int)) (AH.mk (T.node T.leaf (Option.some (AObj.cells [Value.string n, Value.int IntKind.i64 m, Value.func (Go.Fn.yield (1 : Nat)) (Array.mk cols) (Array.mk []), Value.func (Go.Fn.yield (1 : Nat)) (Array.mk rows) (Array.mk [])] (32 : Nat))) T.leaf) (1 : Nat)))
          (((0 : Int) ≤ (↑i : Int) ∧ (↑i : Int) ≤ (↑(List.length cols) : Int)) ∧
            HF (Value.func (Go.Fn.yield (1 : Nat)) (Array.mk cols) (Array.mk [])) ∧
              HF (Value.func (Go.Fn.yield (1 : Nat)) (Array.mk (List.take (Int.toNat (↑i : Int)) cols)) (Array.mk [])) ∧
                HF (Value.agg (Array.mk [Value.string n, Value.int IntKind.i64 m, Value.func (Go.Fn.yield (1 : Nat)) (Array.mk cols) (Array.mk []), Value.func (Go.Fn.yield (1 : Nat)) (Array.mk rows) (Array.mk [])])) ∧
                  LAtZ XG (1 : Nat) ntG (AH.mk T.leaf (0 : Nat)) (loopBody (subC [(1 : Nat), (1 : Nat), (1 : Nat), (1 : Nat), (0 : Nat), (1 : Nat), (0 : Nat)] bdG)) [(1 : Nat), (1 : Nat), (0 : Nat), (0 : Nat), (1 : Nat), (1 : Nat), (1 : Nat), (0 : Nat)] (stepZ XG (1 : Nat) ntG (AH.mk T.leaf (0 : Nat)) bdG [(1 : Nat), (1 : Nat), (1 : Nat), (1 : Nat), (0 : Nat), (1 : Nat), (0 : Nat)] (kFinG K) [] [] [(32 : Nat)] [(1 : Nat), (40 : Nat), (41 : Nat), (42 : Nat)] again)
                    (T.node (T.node (T.node (T.node T.leaf Option.none (T.node T.leaf Option.none (T.node T.leaf (Option.some (Value.int IntKind.i64 (0 : Int))) T.leaf))) Option.none T.leaf) (Option.some (Value.pointer (Option.some (Go.Addr.mk (0 : Nat) (0 : Nat) Option.none)))) (T.node (T.node T.leaf Option.none (T.node (T.node T.leaf (Option.some (Value.int IntKind.i64 (↑(List.length cols) : Int))) T.leaf) Option.none T.leaf)) Option.none (T.node (T.node T.leaf Option.none (T.node T.leaf (Option.some (Value.func (Go.Fn.yield (1 : Nat)) (Array.mk (List.take (Int.toNat (↑i : Int)) cols)) (Array.mk []))) T.leaf)) Option.none T.leaf))) Option.none
                      (T.node
                        (T.node (T.node T.leaf Option.none (T.node (T.node T.leaf (Option.some (Value.func (Go.Fn.yield (1 : Nat)) (Array.mk cols) (Array.mk []))) T.leaf) Option.none T.leaf))
                          (Option.some
                            (Value.string
                              (match nth cols (Int.toNat (↑(Int.toNat (↑i : Int)) : Int)) with
                              | Option.some (Value.string s) => s
                              | x => ByteArray.empty)))
                          T.leaf)
                        Option.none (T.node (T.node T.leaf Option.none (T.node (T.node T.leaf (Option.some (Value.int IntKind.i64 (↑i : Int))) T.leaf) Option.none T.leaf)) Option.none (T.node (T.node T.leaf Option.none (T.node T.leaf (Option.some (Value.int IntKind.i64 (↑(List.length (List.take (Int.toNat (↑i : Int)) cols)) : Int))) T.leaf)) Option.none T.leaf))))
                    (AH.mk (T.node T.leaf (Option.some (AObj.cells [Value.string n, Value.int IntKind.i64 m, Value.func (Go.Fn.yield (1 : Nat)) (Array.mk cols) (Array.mk []), Value.func (Go.Fn.yield (1 : Nat)) (Array.mk rows) (Array.mk [])] (32 : Nat))) T.leaf) (1 : Nat))))
  (HF (Value.func (Go.Fn.yield (1 : Nat)) (Array.mk rows) (Array.mk [])) ∧ HF (Value.agg (Array.mk [Value.string n, Value.int IntKind.i64 m, Value.func (Go.Fn.yield (1 : Nat)) (Array.mk cols) (Array.mk []), Value.func (Go.Fn.yield (1 : Nat)) (Array.mk rows) (Array.mk [])])) ∧ LAtZ XG (1 : Nat) ntG (AH.mk T.leaf (0 : Nat)) bdG [(1 : Nat), (1 : Nat), (1 : Nat), (1 : Nat), (1 : Nat), (0 : Nat), (1 : Nat), (0 : Nat)] (kFinG K) (T.node (T.node (T.node T.leaf Option.none (T.node (T.node (T.node (T.node T.leaf (Option.some (Value.int IntKind.i64 (0 : Int))) T.leaf) Option.none T.leaf) Option.none T.leaf) Option.none T.leaf)) (Option.some (Value.pointer (Option.some (Go.Addr.mk (0 : Nat) (0 : Nat) Option.none)))) (T.node (T.node (T.node (T.node (T.node T.leaf (Option.some (Value.func (Go.Fn.yield (1 : Nat)) (Array.mk rows) (Array.mk []))) T.leaf) Option.none T.leaf) Option.none T.leaf) Option.none T.leaf) Option.none T.leaf)) Option.none (T.node T.leaf Option.none (T.node (T.node (T.node (T.node (T.node T.leaf (Option.some (Value.int IntKind.i64 (↑(List.length rows) : Int))) T.leaf) Option.none T.leaf) Option.none T.leaf) Option.none T.leaf) Option.none T.leaf))) (AH.mk (T.node T.leaf (Option.some (AObj.cells [Value.string n, Value.int IntKind.i64 m, Value.func (Go.Fn.yield (1 : Nat)) (Array.mk cols) (Array.mk []), Value.func (Go.Fn.yield (1 : Nat)) (Array.mk rows) (Array.mk [])] (32 : Nat))) T.leaf) (1 : Nat)))) := by kernel_rfl
theorem jFf2_nf (K : KV) (again0 : KF) (again : KF) (n : SB) (m : Int) (cols : List Go.Value) (rows : List Go.Value) (i : Nat) (c : SB) (pre : List Go.Value) (j : Nat) : jFf2 K again0 again n m cols rows i c pre j = (Sp (decide ((↑j : Int) < (↑(List.length pre) : Int)))
  (((0 : Int) ≤ (↑j : Int) ∧ (↑j : Int) < (↑(List.length pre) : Int)) ∧
    nth pre (Int.toNat (↑(Int.toNat (↑j : Int)) : Int)) =
        Option.some
          (Value.string
            (match nth pre (Int.toNat (↑(Int.toNat (↑j : Int)) : Int)) with
            | Option.some (Value.string s) => s
            | x => ByteArray.empty)) ∧
      Sp (eqL (Array.toList (ByteArray.data c)) (Array.toList (ByteArray.data (strAt pre (↑(Int.toNat (↑j : Int)) : Int))))) (K (Value.int IntKind.i64 (5 : Int)) (AH.mk (T.node T.leaf (Option.some (AObj.cells [Value.string n, Value.int IntKind.i64 m, Value.func (Go.Fn.yield (1 : Nat)) (Array.mk cols) (Array.mk []), Value.func (Go.Fn.yield (1 : Nat)) (Array.mk rows) (Array.mk [])] (32 : Nat))) T.leaf) (1 : Nat))) (HF (Value.func (Go.Fn.yield (1 : Nat)) (Array.mk cols) (Array.mk [])) ∧ HF (Value.func (Go.Fn.yield (1 : Nat)) (Array.mk pre) (Array.mk [])) ∧ HF (Value.agg (Array.mk [Value.string n, Value.int IntKind.i64 m, Value.func (Go.Fn.yield (1 : Nat)) (Array.mk cols) (Array.mk []), Value.func (Go.Fn.yield (1 : Nat)) (Array.mk rows) (Array.mk [])])) ∧ again (T.node (T.node (T.node (T.node T.leaf Option.none (T.node T.leaf Option.none (T.node T.leaf (Option.some (Value.int IntKind.i64 (IntKind.wrap IntKind.i64 ((↑j : Int) + (1 : Int))))) T.leaf))) Option.none T.leaf) (Option.some (Value.pointer (Option.some (Go.Addr.mk (0 : Nat) (0 : Nat) Option.none)))) (T.node (T.node T.leaf Option.none (T.node (T.node T.leaf (Option.some (Value.int IntKind.i64 (↑(List.length cols) : Int))) T.leaf) Option.none T.leaf)) Option.none (T.node (T.node T.leaf Option.none (T.node T.leaf (Option.some (Value.func (Go.Fn.yield (1 : Nat)) (Array.mk pre) (Array.mk []))) T.leaf)) Option.none T.leaf))) Option.none (T.node (T.node (T.node T.leaf Option.none (T.node (T.node T.leaf (Option.some (Value.func (Go.Fn.yield (1 : Nat)) (Array.mk cols) (Array.mk []))) T.leaf) Option.none T.leaf)) (Option.some (Value.string c)) T.leaf) Option.none (T.node (T.node T.leaf Option.none (T.node (T.node T.leaf (Option.some (Value.int IntKind.i64 (↑i : Int))) T.leaf) Option.none T.leaf)) Option.none (T.node (T.node T.leaf Option.none (T.node T.leaf (Option.some (Value.int IntKind.i64 (↑(List.length pre) : Int))) T.leaf)) Option.none T.leaf)))) (AH.mk (T.node T.leaf (Option.some (AObj.cells [Value.string n, Value.int IntKind.i64 m, Value.func (Go.Fn.yield (1 : Nat)) (Array.mk cols) (Array.mk []), Value.func (Go.Fn.yield (1 : Nat)) (Array.mk rows) (Array.mk [])] (32 : Nat))) T.leaf) (1 : Nat))))
  (HF (Value.func (Go.Fn.yield (1 : Nat)) (Array.mk cols) (Array.mk [])) ∧ HF (Value.agg (Array.mk [Value.string n, Value.int IntKind.i64 m, Value.func (Go.Fn.yield (1 : Nat)) (Array.mk cols) (Array.mk []), Value.func (Go.Fn.yield (1 : Nat)) (Array.mk rows) (Array.mk [])])) ∧ again0 (T.node (T.node T.leaf (Option.some (Value.pointer (Option.some (Go.Addr.mk (0 : Nat) (0 : Nat) Option.none)))) (T.node (T.node T.leaf Option.none (T.node (T.node T.leaf (Option.some (Value.int IntKind.i64 (↑(List.length cols) : Int))) T.leaf) Option.none T.leaf)) Option.none T.leaf)) Option.none (T.node (T.node (T.node T.leaf Option.none (T.node (T.node T.leaf (Option.some (Value.func (Go.Fn.yield (1 : Nat)) (Array.mk cols) (Array.mk []))) T.leaf) Option.none T.leaf)) Option.none T.leaf) Option.none (T.node (T.node T.leaf Option.none (T.node (T.node T.leaf (Option.some (Value.int IntKind.i64 (IntKind.wrap IntKind.i64 ((↑i : Int) + (1 : Int))))) T.leaf) Option.none T.leaf)) Option.none T.leaf))) (AH.mk (T.node T.leaf (Option.some (AObj.cells [Value.string n, Value.int IntKind.i64 m, Value.func (Go.Fn.yield (1 : Nat)) (Array.mk cols) (Array.mk []), Value.func (Go.Fn.yield (1 : Nat)) (Array.mk rows) (Array.mk [])] (32 : Nat))) T.leaf) (1 : Nat)))) := by kernel_rfl
theorem jFf3_nf (K : KV) (again : KF) (n : SB) (m : Int) (cols : List Go.Value) (rows : List Go.Value) (i : Nat) : jFf3 K again n m cols rows i = (Sp (decide ((↑i : Int) < (↑(List.length rows) : Int))) (((0 : Int) ≤ (↑i : Int) ∧ (↑i : Int) < (↑(List.length rows) : Int)) ∧ nth rows (Int.toNat (↑(Int.toNat (↑i : Int)) : Int)) = Option.some (Value.func (Go.Fn.yield (1 : Nat)) (Array.mk (rowAt rows (↑(Int.toNat (↑i : Int)) : Int))) (Array.mk [])) ∧ Sp (!decide ((↑(List.length (rowAt rows (↑(Int.toNat (↑i : Int)) : Int))) : Int) = (↑(List.length cols) : Int))) (K (Value.int IntKind.i64 (2 : Int)) (AH.mk (T.node T.leaf (Option.some (AObj.cells [Value.string n, Value.int IntKind.i64 m, Value.func (Go.Fn.yield (1 : Nat)) (Array.mk cols) (Array.mk []), Value.func (Go.Fn.yield (1 : Nat)) (Array.mk rows) (Array.mk [])] (32 : Nat))) T.leaf) (1 : Nat))) (HF (Value.func (Go.Fn.yield (1 : Nat)) (Array.mk rows) (Array.mk [])) ∧ HF (Value.func (Go.Fn.yield (1 : Nat)) (Array.mk (rowAt rows (↑(Int.toNat (↑i : Int)) : Int))) (Array.mk [])) ∧ HF (Value.agg (Array.mk [Value.string n, Value.int IntKind.i64 m, Value.func (Go.Fn.yield (1 : Nat)) (Array.mk cols) (Array.mk []), Value.func (Go.Fn.yield (1 : Nat)) (Array.mk rows) (Array.mk [])])) ∧ LAtZ XG (1 : Nat) ntG (AH.mk T.leaf (0 : Nat)) (loopBody (subC [(1 : Nat), (1 : Nat), (1 : Nat), (1 : Nat), (1 : Nat), (0 : Nat), (1 : Nat), (0 : Nat)] bdG)) [(1 : Nat), (1 : Nat), (0 : Nat), (0 : Nat), (1 : Nat), (1 : Nat), (1 : Nat), (0 : Nat)] (stepZ XG (1 : Nat) ntG (AH.mk T.leaf (0 : Nat)) bdG [(1 : Nat), (1 : Nat), (1 : Nat), (1 : Nat), (1 : Nat), (0 : Nat), (1 : Nat), (0 : Nat)] (kFinG K) [] [] [(32 : Nat)] [(1 : Nat), (65 : Nat), (66 : Nat), (67 : Nat)] again) (T.node (T.node (T.node (T.node (T.node T.leaf Option.none (T.node (T.node T.leaf (Option.some (Value.int IntKind.i64 (0 : Int))) T.leaf) Option.none T.leaf)) Option.none T.leaf) Option.none (T.node (T.node (T.node (T.node T.leaf (Option.some (Value.int IntKind.i64 (↑i : Int))) T.leaf) Option.none T.leaf) Option.none T.leaf) Option.none T.leaf)) (Option.some (Value.pointer (Option.some (Go.Addr.mk (0 : Nat) (0 : Nat) Option.none)))) (T.node (T.node (T.node (T.node (T.node T.leaf (Option.some (Value.func (Go.Fn.yield (1 : Nat)) (Array.mk rows) (Array.mk []))) T.leaf) Option.none T.leaf) Option.none T.leaf) Option.none T.leaf) Option.none (T.node T.leaf Option.none (T.node (T.node (T.node T.leaf (Option.some (Value.func (Go.Fn.yield (1 : Nat)) (Array.mk (rowAt rows (↑(Int.toNat (↑i : Int)) : Int))) (Array.mk []))) T.leaf) Option.none T.leaf) Option.none T.leaf)))) Option.none (T.node T.leaf Option.none (T.node (T.node (T.node (T.node (T.node T.leaf (Option.some (Value.int IntKind.i64 (↑(List.length rows) : Int))) T.leaf) Option.none T.leaf) Option.none T.leaf) Option.none T.leaf) Option.none (T.node T.leaf Option.none (T.node (T.node (T.node T.leaf (Option.some (Value.int IntKind.i64 (↑(List.length (rowAt rows (↑(Int.toNat (↑i : Int)) : Int))) : Int))) T.leaf) Option.none T.leaf) Option.none T.leaf))))) (AH.mk (T.node T.leaf (Option.some (AObj.cells [Value.string n, Value.int IntKind.i64 m, Value.func (Go.Fn.yield (1 : Nat)) (Array.mk cols) (Array.mk []), Value.func (Go.Fn.yield (1 : Nat)) (Array.mk rows) (Array.mk [])] (32 : Nat))) T.leaf) (1 : Nat)))) (K (Value.int IntKind.i64 (0 : Int)) (AH.mk (T.node T.leaf (Option.some (AObj.cells [Value.string n, Value.int IntKind.i64 m, Value.func (Go.Fn.yield (1 : Nat)) (Array.mk cols) (Array.mk []), Value.func (Go.Fn.yield (1 : Nat)) (Array.mk rows) (Array.mk [])] (32 : Nat))) T.leaf) (1 : Nat)))) := by kernel_rfl
theorem jFf4_nf (K : KV) (again0 : KF) (again : KF) (n : SB) (m : Int) (cols : List Go.Value) (rows : List Go.Value) (i : Nat) (r : List Go.Value) (j : Nat) : jFf4 K again0 again n m cols rows i r j = (Sp (decide ((↑j : Int) < (↑(List.length r) : Int)))
  (((0 : Int) ≤ (↑j : Int) ∧ (↑j : Int) < (↑(List.length r) : Int)) ∧
    nth r (Int.toNat (↑(Int.toNat (↑j : Int)) : Int)) =
        Option.some
          (Value.string
            (match nth r (Int.toNat (↑(Int.toNat (↑j : Int)) : Int)) with
            | Option.some (Value.string s) => s
            | x => ByteArray.empty)) ∧
      Sp (decide ((1000000 : Int) < (↑(ByteArray.size (strAt r (↑(Int.toNat (↑j : Int)) : Int))) : Int))) (K (Value.int IntKind.i64 (3 : Int)) (AH.mk (T.node T.leaf (Option.some (AObj.cells [Value.string n, Value.int IntKind.i64 m, Value.func (Go.Fn.yield (1 : Nat)) (Array.mk cols) (Array.mk []), Value.func (Go.Fn.yield (1 : Nat)) (Array.mk rows) (Array.mk [])] (32 : Nat))) T.leaf) (1 : Nat))) (HF (Value.func (Go.Fn.yield (1 : Nat)) (Array.mk rows) (Array.mk [])) ∧ HF (Value.func (Go.Fn.yield (1 : Nat)) (Array.mk r) (Array.mk [])) ∧ HF (Value.agg (Array.mk [Value.string n, Value.int IntKind.i64 m, Value.func (Go.Fn.yield (1 : Nat)) (Array.mk cols) (Array.mk []), Value.func (Go.Fn.yield (1 : Nat)) (Array.mk rows) (Array.mk [])])) ∧ again (T.node (T.node (T.node (T.node (T.node T.leaf Option.none (T.node (T.node T.leaf (Option.some (Value.int IntKind.i64 (IntKind.wrap IntKind.i64 ((↑j : Int) + (1 : Int))))) T.leaf) Option.none T.leaf)) Option.none T.leaf) Option.none (T.node (T.node (T.node (T.node T.leaf (Option.some (Value.int IntKind.i64 (↑i : Int))) T.leaf) Option.none T.leaf) Option.none T.leaf) Option.none T.leaf)) (Option.some (Value.pointer (Option.some (Go.Addr.mk (0 : Nat) (0 : Nat) Option.none)))) (T.node (T.node (T.node (T.node (T.node T.leaf (Option.some (Value.func (Go.Fn.yield (1 : Nat)) (Array.mk rows) (Array.mk []))) T.leaf) Option.none T.leaf) Option.none T.leaf) Option.none T.leaf) Option.none (T.node T.leaf Option.none (T.node (T.node (T.node T.leaf (Option.some (Value.func (Go.Fn.yield (1 : Nat)) (Array.mk r) (Array.mk []))) T.leaf) Option.none T.leaf) Option.none T.leaf)))) Option.none (T.node T.leaf Option.none (T.node (T.node (T.node (T.node (T.node T.leaf (Option.some (Value.int IntKind.i64 (↑(List.length rows) : Int))) T.leaf) Option.none T.leaf) Option.none T.leaf) Option.none T.leaf) Option.none (T.node T.leaf Option.none (T.node (T.node (T.node T.leaf (Option.some (Value.int IntKind.i64 (↑(List.length r) : Int))) T.leaf) Option.none T.leaf) Option.none T.leaf))))) (AH.mk (T.node T.leaf (Option.some (AObj.cells [Value.string n, Value.int IntKind.i64 m, Value.func (Go.Fn.yield (1 : Nat)) (Array.mk cols) (Array.mk []), Value.func (Go.Fn.yield (1 : Nat)) (Array.mk rows) (Array.mk [])] (32 : Nat))) T.leaf) (1 : Nat))))
  (HF (Value.func (Go.Fn.yield (1 : Nat)) (Array.mk rows) (Array.mk [])) ∧ HF (Value.agg (Array.mk [Value.string n, Value.int IntKind.i64 m, Value.func (Go.Fn.yield (1 : Nat)) (Array.mk cols) (Array.mk []), Value.func (Go.Fn.yield (1 : Nat)) (Array.mk rows) (Array.mk [])])) ∧ again0 (T.node (T.node (T.node T.leaf Option.none (T.node (T.node (T.node (T.node T.leaf (Option.some (Value.int IntKind.i64 (IntKind.wrap IntKind.i64 ((↑i : Int) + (1 : Int))))) T.leaf) Option.none T.leaf) Option.none T.leaf) Option.none T.leaf)) (Option.some (Value.pointer (Option.some (Go.Addr.mk (0 : Nat) (0 : Nat) Option.none)))) (T.node (T.node (T.node (T.node (T.node T.leaf (Option.some (Value.func (Go.Fn.yield (1 : Nat)) (Array.mk rows) (Array.mk []))) T.leaf) Option.none T.leaf) Option.none T.leaf) Option.none T.leaf) Option.none T.leaf)) Option.none (T.node T.leaf Option.none (T.node (T.node (T.node (T.node (T.node T.leaf (Option.some (Value.int IntKind.i64 (↑(List.length rows) : Int))) T.leaf) Option.none T.leaf) Option.none T.leaf) Option.none T.leaf) Option.none T.leaf))) (AH.mk (T.node T.leaf (Option.some (AObj.cells [Value.string n, Value.int IntKind.i64 m, Value.func (Go.Fn.yield (1 : Nat)) (Array.mk cols) (Array.mk []), Value.func (Go.Fn.yield (1 : Nat)) (Array.mk rows) (Array.mk [])] (32 : Nat))) T.leaf) (1 : Nat)))) := by kernel_rfl
theorem G4_loop {K : KV} {again0 : KF} (n : SB) (m : Int) (cs : List SB) (rs : List (List SB)) (i : Nat) (r : List SB) (hr : r.length ≤ 1000000) (hi : i ≤ 1000000)
    (hK : txF r ≠ 0 → K (.int .i64 3) (hF0 n m (sv cs) (rv rs))) (h : txF r = 0 → again0 (frG3 (rv rs) (i + 1)) (hF0 n m (sv cs) (rv rs))) :
    LAtZ XG 1 ntG ⟨.leaf, 0⟩ cG3 [1, 1, 0, 0, 1, 1, 1, 0] (kG3 K again0) (frG4 (rv rs) i (sv r) 0) (hF0 n m (sv cs) (rv rs)) := by
  refine LAtZ.step XG_ok rfl [] [] [32] [1, 65, 66, 67, 77, 78, 79] (by kernel_rfl) (fun k F A => ∃ j : Nat, F = frG4 (rv rs) i (sv r) j ∧ A = hF0 n m (sv cs) (rv rs) ∧ j + k = r.length ∧ txF r = txF (r.drop j)) ?_ (k := r.length) ⟨0, rfl, rfl, by simp, by simp⟩
  rintro k F A ⟨j, rfl, rfl, hk, hx⟩
  refine (jFf4_nf K again0 _ n m _ _ i _ j).mpr ?_
  refine Sp.intro (fun c => ?_) (fun c => ?_)
  · have hlt : j < r.length := by simpa [sv_len] using c
    have hw : IntKind.i64.wrap ((j : Int) + 1) = ((j + 1 : Nat) : Int) := by rw [i64_in (by omega) (by omega)]; rfl
    rw [List.drop_eq_getElem_cons hlt] at hx
    simp only [Int.toNat_natCast, st_at hlt, hw]
    refine ⟨by rw [sv_len]; omega, by rw [sv_nth hlt], Sp.intro (fun c2 => hK ?_) (fun c2 => ⟨HF_rr rs, HF_ss r, HF_fd n m cs rs, k - 1, by omega, j + 1, rfl, by first | trivial | rfl, by omega, ?_⟩)⟩
    · rw [hx]; simp only [txF, c2, cond_true]; decide
    · rw [hx]; simp only [txF, c2, cond_false]
  · have hn : r.drop j = [] := List.drop_eq_nil_of_le (by simp [sv_len] at c; omega)
    rw [hn] at hx
    have hw : IntKind.i64.wrap ((i : Int) + 1) = ((i + 1 : Nat) : Int) := by rw [i64_in (by omega) (by omega)]; rfl
    simp only [hw]
    exact ⟨HF_rr rs, HF_fd n m cs rs, h hx⟩
theorem G3_loop {K : KV} (n : SB) (m : Int) (cs : List SB) (rs : List (List SB)) (hc : cs.length ≤ 1000000) (hr : rs.length ≤ 1000000)
    (hK : K (.int .i64 (rowF cs.length rs)) (hF0 n m (sv cs) (rv rs))) :
    LAtZ XG 1 ntG ⟨.leaf, 0⟩ bdG [1, 1, 1, 1, 1, 0, 1, 0] (kFinG K) (frG3 (rv rs) 0) (hF0 n m (sv cs) (rv rs)) := by
  refine LAtZ.step XG_ok rfl [] [] [32] [1, 65, 66, 67] (by kernel_rfl) (fun k F A => ∃ i : Nat, F = frG3 (rv rs) i ∧ A = hF0 n m (sv cs) (rv rs) ∧ i + k = rs.length ∧ rowF cs.length rs = rowF cs.length (rs.drop i)) ?_ (k := rs.length) ⟨0, rfl, rfl, by simp, by simp⟩
  rintro k F A ⟨i, rfl, rfl, hk, hx⟩
  refine (jFf3_nf K _ n m _ _ i).mpr ?_
  refine Sp.intro (fun c => ?_) (fun c => ?_)
  · have hlt : i < rs.length := by simpa [rv_len] using c
    rw [List.drop_eq_getElem_cons hlt] at hx
    simp only [Int.toNat_natCast, rw_at hlt]
    refine ⟨by rw [rv_len]; omega, by rw [rv_nth hlt]; rfl, Sp.intro (fun c2 => ?_) (fun c2 => ?_)⟩
    · have e : rowF cs.length rs = 2 := by
        rw [hx]; unfold rowF
        have : decide (rs[i].length = cs.length) = false := by simp [sv_len] at c2; simp; omega
        rw [this]; rfl
      rw [e] at hK; exact hK
    · have e : decide (rs[i].length = cs.length) = true := by simp [sv_len] at c2; simp; omega
      have el : rs[i].length = cs.length := of_decide_eq_true e
      refine ⟨HF_rr rs, HF_ss _, HF_fd n m cs rs, G4_loop n m cs rs i rs[i] (by omega) (by omega) (fun h => ?_) (fun h => ?_)⟩
      · have e2 : rowF cs.length rs = 3 := by
          rw [hx]; unfold rowF; rw [e, show decide (txF rs[i] = 0) = false by simp [h]]; rfl
        rw [e2] at hK; exact hK
      · refine ⟨k - 1, by omega, i + 1, rfl, rfl, by omega, ?_⟩
        rw [hx]
        show (bif decide (rs[i].length = cs.length) then (bif decide (txF rs[i] = 0) then rowF cs.length (rs.drop (i + 1)) else 3) else 2) = _
        rw [e, show decide (txF rs[i] = 0) = true by simp [h]]; rfl
  · have hn : rs.drop i = [] := List.drop_eq_nil_of_le (by simp [rv_len] at c; omega)
    rw [hn] at hx
    rw [hx] at hK
    exact hK
end
end Go.T9
set_option maxRecDepth 1000000
set_option linter.unusedVariables false
set_option linter.unusedSimpArgs false
set_option maxHeartbeats 4000000
namespace Go.T9
open Go Go.AM Go.MK
noncomputable section
theorem sv_take (cs : List SB) (i : Nat) : (sv cs).take i = sv (cs.take i) := by simp [sv, List.map_take]
def dl (l : List SB) : List (List UInt8) := l.map fun s => s.data.toList
theorem G2_loop {K : KV} {again0 : KF} (n : SB) (m : Int) (cs : List SB) (rs : List (List SB)) (i : Nat) (c : SB) (pre : List SB) (hr : pre.length ≤ 1000000) (hi : i ≤ 1000000)
    (hK : c.data.toList ∈ dl pre → K (.int .i64 5) (hF0 n m (sv cs) (rv rs))) (h : ¬ c.data.toList ∈ dl pre → again0 (frG1 (sv cs) (i + 1)) (hF0 n m (sv cs) (rv rs))) :
    LAtZ XG 1 ntG ⟨.leaf, 0⟩ cG1 [1, 1, 0, 0, 1, 1, 1, 0] (kG1 K again0) (frG2 (sv cs) i c (sv pre) 0) (hF0 n m (sv cs) (rv rs)) := by
  refine LAtZ.step XG_ok rfl [] [] [32] [1, 4, 40, 41, 42, 53, 54, 55] (by kernel_rfl) (fun k F A => ∃ j : Nat, F = frG2 (sv cs) i c (sv pre) j ∧ A = hF0 n m (sv cs) (rv rs) ∧ j + k = pre.length ∧ (c.data.toList ∈ dl pre ↔ c.data.toList ∈ dl (pre.drop j))) ?_ (k := pre.length) ⟨0, rfl, rfl, by simp, by simp⟩
  rintro k F A ⟨j, rfl, rfl, hk, hx⟩
  refine (jFf2_nf K again0 _ n m _ _ i _ _ j).mpr ?_
  refine Sp.intro (fun c1 => ?_) (fun c1 => ?_)
  · have hlt : j < pre.length := by simpa [sv_len] using c1
    have hw : IntKind.i64.wrap ((j : Int) + 1) = ((j + 1 : Nat) : Int) := by rw [i64_in (by omega) (by omega)]; rfl
    rw [List.drop_eq_getElem_cons hlt] at hx
    simp only [dl, List.map_cons, List.mem_cons] at hx
    simp only [Int.toNat_natCast, st_at hlt, hw]
    refine ⟨by rw [sv_len]; omega, by rw [sv_nth hlt], Sp.intro (fun c2 => hK (hx.2 (.inl ((eqL_iff _ _).1 c2)))) (fun c2 => ⟨HF_ss cs, HF_ss pre, HF_fd n m cs rs, k - 1, by omega, j + 1, rfl, by first | trivial | rfl, by omega, ?_⟩)⟩
    have hne : ¬ c.data.toList = pre[j].data.toList := fun e => by rw [(eqL_iff _ _).2 e] at c2; cases c2
    exact hx.trans ⟨fun q => q.resolve_left hne, .inr⟩
  · have hn : pre.drop j = [] := List.drop_eq_nil_of_le (by simp [sv_len] at c1; omega)
    rw [hn] at hx
    have hw : IntKind.i64.wrap ((i : Int) + 1) = ((i + 1 : Nat) : Int) := by rw [i64_in (by omega) (by omega)]; rfl
    simp only [hw]
    exact ⟨HF_ss cs, HF_fd n m cs rs, h (fun q => by have := hx.1 q; simp [dl] at this)⟩
theorem G1_loop {K : KV} (n : SB) (m : Int) (cs : List SB) (rs : List (List SB)) (hc : cs.length ≤ 1000000) (hr : rs.length ≤ 1000000) (hb : ∀ s ∈ cs, s.size < 9223372036854775808)
    (hK0 : colF [] cs ≠ 0 → K (.int .i64 (colF [] cs)) (hF0 n m (sv cs) (rv rs))) (hK1 : colF [] cs = 0 → K (.int .i64 (rowF cs.length rs)) (hF0 n m (sv cs) (rv rs))) :
    LAtZ XG 1 ntG ⟨.leaf, 0⟩ bdG [1, 1, 1, 1, 0, 1, 0] (kFinG K) (frG1 (sv cs) 0) (hF0 n m (sv cs) (rv rs)) := by
  refine LAtZ.step XG_ok rfl [] [] [32] [1, 40, 41, 42] (by kernel_rfl) (fun k F A => ∃ i : Nat, F = frG1 (sv cs) i ∧ A = hF0 n m (sv cs) (rv rs) ∧ i + k = cs.length ∧ colF [] cs = colF (seenF cs i) (cs.drop i)) ?_ (k := cs.length) ⟨0, rfl, rfl, by simp, by simp [seenF]⟩
  rintro k F A ⟨i, rfl, rfl, hk, hx⟩
  refine (jFf1_nf K _ n m _ _ i).mpr ?_
  refine Sp.intro (fun c => ?_) (fun c => ?_)
  · have hlt : i < cs.length := by simpa [sv_len] using c
    rw [colF_step hlt] at hx
    simp only [Int.toNat_natCast, st_at hlt, sv_nth hlt, sv_take]
    refine ⟨by rw [sv_len]; omega, by first | trivial | rfl, hb _ (List.getElem_mem hlt), Sp.intro (fun c2 => ?_) (fun c2 => ⟨by rw [sv_len]; omega, HF_ss cs, HF_ss (cs.take i), HF_fd n m cs rs, ?_⟩)⟩
    · have e : nameB cs[i] = false := by simpa using c2
      rw [e] at hx
      have e2 : colF [] cs = 8 := hx
      have := hK0 (by rw [e2]; decide)
      rw [e2] at this; exact this
    · have e : nameB cs[i] = true := by simpa using c2
      rw [e] at hx
      refine G2_loop n m cs rs i cs[i] (cs.take i) (by rw [List.length_take]; omega) (by omega) (fun q => ?_) (fun q => ⟨k - 1, by omega, i + 1, rfl, rfl, by omega, ?_⟩)
      · have q : cs[i].data.toList ∈ seenF cs i := q
        have e2 : colF [] cs = 5 := by rw [hx, decide_eq_true q]; rfl
        have := hK0 (by rw [e2]; decide)
        rw [e2] at this; exact this
      · have q : ¬ cs[i].data.toList ∈ seenF cs i := q
        rw [hx, decide_eq_false q]; rfl
  · have hn : cs.drop i = [] := List.drop_eq_nil_of_le (by simp [sv_len] at c; omega)
    rw [hn] at hx
    have hx : colF [] cs = 0 := hx.trans (by cases seenF cs i <;> rfl)
    exact ⟨HF_rr rs, HF_fd n m cs rs, G3_loop n m cs rs hc hr (hK1 hx)⟩
theorem ff_walk (n : SB) (m : Int) (cs : List SB) (rs : List (List SB)) (hb : ∀ s ∈ cs, s.size < 9223372036854775808) : WalkZ env Proofs.Tryz.f28 [fdv n m (sv cs) (rv rs)] ⟨.leaf, 0⟩ (.int .i64 (fdF m cs rs)) := by
  refine sxFnZ_walk XG_ok (d := 1) ((jFf_nf _ n m _ _).mpr ?_)
  refine Sp.intro (fun c1 => Sp.intro (fun c2 => ?_) (fun c2 => ?_)) (fun c1 => ?_)
  · have e : fdF m cs rs = 7 := by
      simp at c1 c2
      unfold fdF; simp [c1, c2]
    rw [e]; exact Frz.same (HFi _ _)
  all_goals
    have hm : (decide (m = 1) || decide (m = 2)) = true := by first | (simp at c2; simp [c2]) | (simp at c1; simp [c1])
    refine Sp.intro (fun c3 => ?_) (fun c3 => Sp.intro (fun c4 => ?_) (fun c4 => Sp.intro (fun c5 => ?_) (fun c5 => Sp.intro (fun c6 => ?_) (fun c6 => ?_))))
    · have e : fdF m cs rs = 13 := by
        simp [sv_len] at c3
        unfold fdF; rw [hm]; simp [c3]
      rw [e]; exact Frz.same (HFi _ _)
    · have e : fdF m cs rs = 13 := by
        simp [rv_len] at c4
        unfold fdF; rw [hm]; simp [c4]
      rw [e]; exact Frz.same (HFi _ _)
    · have e : fdF m cs rs = 3 := by
        have h1 : 20 < cs.length := by simp [sv_len] at c5; omega
        have h3 : decide (cs.length = 0) = false := by simp; intro h; simp [h] at h1
        have h4 : decide (rs.length = 0) = false := by simp [rv_len] at c4; simp [c4]
        unfold fdF; rw [hm, h3, h4]; simp [h1]
      rw [e]; exact Frz.same (HFi _ _)
    · have e : fdF m cs rs = 3 := by
        have h1 : 10000 < rs.length := by simp [rv_len] at c6; omega
        have h3 : decide (cs.length = 0) = false := by simp [sv_len] at c3; simp [c3]
        have h4 : decide (rs.length = 0) = false := by simp [rv_len] at c4; simp [c4]
        unfold fdF; rw [hm, h3, h4]; simp [h1]
      rw [e]; exact Frz.same (HFi _ _)
    · have h1 : cs.length ≤ 20 := by simp [sv_len] at c5; omega
      have h2 : rs.length ≤ 10000 := by simp [rv_len] at c6; omega
      have h3 : decide (cs.length = 0) = false := by simp [sv_len] at c3; simp [c3]
      have h4 : decide (rs.length = 0) = false := by simp [rv_len] at c4; simp [c4]
      have e : fdF m cs rs = bif decide (colF [] cs = 0) then rowF cs.length rs else colF [] cs := by
        unfold fdF; rw [hm, h3, h4, show decide (20 < cs.length) = false by simp; omega, show decide (10000 < rs.length) = false by simp; omega]; rfl
      refine ⟨HF_ss cs, HF_fd n m cs rs, G1_loop n m cs rs (by omega) (by omega) hb (fun h => ?_) (fun h => ?_)⟩
      · rw [e, show decide (colF [] cs = 0) = false by simp [h]]; exact Frz.same (HFi _ _)
      · rw [e, show decide (colF [] cs = 0) = true by simp [h]]; exact Frz.same (HFi _ _)
theorem ff_tab : ∀ args A p v A', pureR cfPre cfX args A = some (p, v, A') → PH p → CallAt env 28 args A v A' := walk_tab env_ok env_gl (fn := Proofs.Tryz.f28) rfl fun args v h hp => by
  unfold cfX at h
  split at h
  · simp only [Option.some.injEq] at h
    subst h
    obtain ⟨cs, rs, rfl, rfl, hb⟩ := hp
    refine ⟨HF.cons (HF_fd _ _ cs rs) HF.nil, ?_⟩
    rw [unS_sv, unR_rv]
    exact ff_walk _ _ cs rs hb
  · cases h
def tabRr : Tab := [(27, pureR nmPre nmX), (28, pureR cfPre cfX), (33, pureR (fun _ => none) blX)]
theorem tabRr_ok : TabOk env tabRr := .cons is_tab (.cons ff_tab (.cons (con_tab bl_con) .nil))
def XRr : SX := ⟨env, tabRr, noEl, fun _ => .unroll 4⟩
theorem XRr_ok : XRr.Ok := ⟨env_ok, env_sym, env_gl, tabRr_ok⟩
def jRr (K : KV) (n : SB) (m : Int) (cols rows : List Value) (sd wh ti dr : Int) : Prop := sxFn XRr 4 Proofs.Tryz.f12 [fdv n m cols rows, .int .i64 sd, .int .i64 wh, .int .i64 ti, .int .i64 dr] K
end
end Go.T9
set_option maxRecDepth 1000000
set_option linter.unusedVariables false
set_option linter.unusedSimpArgs false
set_option maxHeartbeats 4000000
namespace Go.T9
open Go Go.AM Go.MK
noncomputable section
theorem jRr_nf (K : KV) (n : SB) (m : Int) (cols : List Go.Value) (rows : List Go.Value) (sd : Int) (wh : Int) (ti : Int) (dr : Int) : jRr K n m cols rows sd wh ti dr = (ByteArray.size n < (9223372036854775808 : Nat) ∧ Sp (!nameB n) (K (Value.tuple (Array.mk [Value.int IntKind.i64 (0 : Int), Value.int IntKind.i64 (8 : Int)])) (AH.mk (T.node (T.node T.leaf (Option.some (AObj.cells [Value.string n, Value.int IntKind.i64 m, Value.func (Go.Fn.yield (1 : Nat)) (Array.mk cols) (Array.mk []), Value.func (Go.Fn.yield (1 : Nat)) (Array.mk rows) (Array.mk [])] (32 : Nat))) T.leaf) (Option.some (AObj.cells [Value.string n, Value.int IntKind.i64 m, Value.func (Go.Fn.yield (1 : Nat)) (Array.mk cols) (Array.mk []), Value.func (Go.Fn.yield (1 : Nat)) (Array.mk rows) (Array.mk [])] (32 : Nat))) (T.node T.leaf (Option.some (AObj.cells [Value.string n, Value.int IntKind.i64 m, Value.func (Go.Fn.yield (1 : Nat)) (Array.mk cols) (Array.mk []), Value.func (Go.Fn.yield (1 : Nat)) (Array.mk rows) (Array.mk [])] (32 : Nat))) T.leaf)) (3 : Nat))) ((∃ (cs : List SB), ∃ (rs : List (List SB)), cols = sv cs ∧ rows = rv rs ∧ ∀ (s : SB), s ∈ cs → ByteArray.size s < (9223372036854775808 : Nat)) ∧ Sp (!decide (fdF m (unS cols) (unR rows) = (0 : Int))) (Sp (!decide (fdF m (unS cols) (unR rows) = (0 : Int))) (K (Value.tuple (Array.mk [Value.int IntKind.i64 (0 : Int), Value.int IntKind.i64 (fdF m (unS cols) (unR rows))])) (AH.mk (T.node (T.node T.leaf (Option.some (AObj.cells [Value.string n, Value.int IntKind.i64 m, Value.func (Go.Fn.yield (1 : Nat)) (Array.mk cols) (Array.mk []), Value.func (Go.Fn.yield (1 : Nat)) (Array.mk rows) (Array.mk [])] (32 : Nat))) T.leaf) (Option.some (AObj.cells [Value.string n, Value.int IntKind.i64 m, Value.func (Go.Fn.yield (1 : Nat)) (Array.mk cols) (Array.mk []), Value.func (Go.Fn.yield (1 : Nat)) (Array.mk rows) (Array.mk [])] (32 : Nat))) (T.node T.leaf (Option.some (AObj.cells [Value.string n, Value.int IntKind.i64 m, Value.func (Go.Fn.yield (1 : Nat)) (Array.mk cols) (Array.mk []), Value.func (Go.Fn.yield (1 : Nat)) (Array.mk rows) (Array.mk [])] (32 : Nat))) T.leaf)) (3 : Nat))) (Sp (decide (wh < (0 : Int))) (K (Value.tuple (Array.mk [Value.int IntKind.i64 (0 : Int), Value.int IntKind.i64 (9 : Int)])) (AH.mk (T.node (T.node (T.node T.leaf (Option.some (AObj.cells [Value.int IntKind.i64 wh, Value.int IntKind.i64 ti, Value.int IntKind.i64 dr] (3 : Nat))) T.leaf) (Option.some (AObj.cells [Value.string n, Value.int IntKind.i64 m, Value.func (Go.Fn.yield (1 : Nat)) (Array.mk cols) (Array.mk []), Value.func (Go.Fn.yield (1 : Nat)) (Array.mk rows) (Array.mk [])] (32 : Nat))) T.leaf) (Option.some (AObj.cells [Value.string n, Value.int IntKind.i64 m, Value.func (Go.Fn.yield (1 : Nat)) (Array.mk cols) (Array.mk []), Value.func (Go.Fn.yield (1 : Nat)) (Array.mk rows) (Array.mk [])] (32 : Nat))) (T.node T.leaf (Option.some (AObj.cells [Value.string n, Value.int IntKind.i64 m, Value.func (Go.Fn.yield (1 : Nat)) (Array.mk cols) (Array.mk []), Value.func (Go.Fn.yield (1 : Nat)) (Array.mk rows) (Array.mk [])] (32 : Nat))) T.leaf)) (4 : Nat))) (Sp (decide ((1000000000000 : Int) < wh)) (K (Value.tuple (Array.mk [Value.int IntKind.i64 (0 : Int), Value.int IntKind.i64 (9 : Int)])) (AH.mk (T.node (T.node (T.node T.leaf (Option.some (AObj.cells [Value.int IntKind.i64 wh, Value.int IntKind.i64 ti, Value.int IntKind.i64 dr] (3 : Nat))) T.leaf) (Option.some (AObj.cells [Value.string n, Value.int IntKind.i64 m, Value.func (Go.Fn.yield (1 : Nat)) (Array.mk cols) (Array.mk []), Value.func (Go.Fn.yield (1 : Nat)) (Array.mk rows) (Array.mk [])] (32 : Nat))) T.leaf) (Option.some (AObj.cells [Value.string n, Value.int IntKind.i64 m, Value.func (Go.Fn.yield (1 : Nat)) (Array.mk cols) (Array.mk []), Value.func (Go.Fn.yield (1 : Nat)) (Array.mk rows) (Array.mk [])] (32 : Nat))) (T.node T.leaf (Option.some (AObj.cells [Value.string n, Value.int IntKind.i64 m, Value.func (Go.Fn.yield (1 : Nat)) (Array.mk cols) (Array.mk []), Value.func (Go.Fn.yield (1 : Nat)) (Array.mk rows) (Array.mk [])] (32 : Nat))) T.leaf)) (4 : Nat))) (Sp (decide (ti < (0 : Int))) (K (Value.tuple (Array.mk [Value.int IntKind.i64 (0 : Int), Value.int IntKind.i64 (9 : Int)])) (AH.mk (T.node (T.node (T.node T.leaf (Option.some (AObj.cells [Value.int IntKind.i64 wh, Value.int IntKind.i64 ti, Value.int IntKind.i64 dr] (3 : Nat))) T.leaf) (Option.some (AObj.cells [Value.string n, Value.int IntKind.i64 m, Value.func (Go.Fn.yield (1 : Nat)) (Array.mk cols) (Array.mk []), Value.func (Go.Fn.yield (1 : Nat)) (Array.mk rows) (Array.mk [])] (32 : Nat))) T.leaf) (Option.some (AObj.cells [Value.string n, Value.int IntKind.i64 m, Value.func (Go.Fn.yield (1 : Nat)) (Array.mk cols) (Array.mk []), Value.func (Go.Fn.yield (1 : Nat)) (Array.mk rows) (Array.mk [])] (32 : Nat))) (T.node T.leaf (Option.some (AObj.cells [Value.string n, Value.int IntKind.i64 m, Value.func (Go.Fn.yield (1 : Nat)) (Array.mk cols) (Array.mk []), Value.func (Go.Fn.yield (1 : Nat)) (Array.mk rows) (Array.mk [])] (32 : Nat))) T.leaf)) (4 : Nat))) (Sp (decide ((1000000000000 : Int) < ti)) (K (Value.tuple (Array.mk [Value.int IntKind.i64 (0 : Int), Value.int IntKind.i64 (9 : Int)])) (AH.mk (T.node (T.node (T.node T.leaf (Option.some (AObj.cells [Value.int IntKind.i64 wh, Value.int IntKind.i64 ti, Value.int IntKind.i64 dr] (3 : Nat))) T.leaf) (Option.some (AObj.cells [Value.string n, Value.int IntKind.i64 m, Value.func (Go.Fn.yield (1 : Nat)) (Array.mk cols) (Array.mk []), Value.func (Go.Fn.yield (1 : Nat)) (Array.mk rows) (Array.mk [])] (32 : Nat))) T.leaf) (Option.some (AObj.cells [Value.string n, Value.int IntKind.i64 m, Value.func (Go.Fn.yield (1 : Nat)) (Array.mk cols) (Array.mk []), Value.func (Go.Fn.yield (1 : Nat)) (Array.mk rows) (Array.mk [])] (32 : Nat))) (T.node T.leaf (Option.some (AObj.cells [Value.string n, Value.int IntKind.i64 m, Value.func (Go.Fn.yield (1 : Nat)) (Array.mk cols) (Array.mk []), Value.func (Go.Fn.yield (1 : Nat)) (Array.mk rows) (Array.mk [])] (32 : Nat))) T.leaf)) (4 : Nat))) (Sp (decide (dr < (0 : Int))) (K (Value.tuple (Array.mk [Value.int IntKind.i64 (0 : Int), Value.int IntKind.i64 (9 : Int)])) (AH.mk (T.node (T.node (T.node T.leaf (Option.some (AObj.cells [Value.int IntKind.i64 wh, Value.int IntKind.i64 ti, Value.int IntKind.i64 dr] (3 : Nat))) T.leaf) (Option.some (AObj.cells [Value.string n, Value.int IntKind.i64 m, Value.func (Go.Fn.yield (1 : Nat)) (Array.mk cols) (Array.mk []), Value.func (Go.Fn.yield (1 : Nat)) (Array.mk rows) (Array.mk [])] (32 : Nat))) T.leaf) (Option.some (AObj.cells [Value.string n, Value.int IntKind.i64 m, Value.func (Go.Fn.yield (1 : Nat)) (Array.mk cols) (Array.mk []), Value.func (Go.Fn.yield (1 : Nat)) (Array.mk rows) (Array.mk [])] (32 : Nat))) (T.node T.leaf (Option.some (AObj.cells [Value.string n, Value.int IntKind.i64 m, Value.func (Go.Fn.yield (1 : Nat)) (Array.mk cols) (Array.mk []), Value.func (Go.Fn.yield (1 : Nat)) (Array.mk rows) (Array.mk [])] (32 : Nat))) T.leaf)) (4 : Nat))) (Sp (decide ((1000000000000 : Int) < dr)) (K (Value.tuple (Array.mk [Value.int IntKind.i64 (0 : Int), Value.int IntKind.i64 (9 : Int)])) (AH.mk (T.node (T.node (T.node T.leaf (Option.some (AObj.cells [Value.int IntKind.i64 wh, Value.int IntKind.i64 ti, Value.int IntKind.i64 dr] (3 : Nat))) T.leaf) (Option.some (AObj.cells [Value.string n, Value.int IntKind.i64 m, Value.func (Go.Fn.yield (1 : Nat)) (Array.mk cols) (Array.mk []), Value.func (Go.Fn.yield (1 : Nat)) (Array.mk rows) (Array.mk [])] (32 : Nat))) T.leaf) (Option.some (AObj.cells [Value.string n, Value.int IntKind.i64 m, Value.func (Go.Fn.yield (1 : Nat)) (Array.mk cols) (Array.mk []), Value.func (Go.Fn.yield (1 : Nat)) (Array.mk rows) (Array.mk [])] (32 : Nat))) (T.node T.leaf (Option.some (AObj.cells [Value.string n, Value.int IntKind.i64 m, Value.func (Go.Fn.yield (1 : Nat)) (Array.mk cols) (Array.mk []), Value.func (Go.Fn.yield (1 : Nat)) (Array.mk rows) (Array.mk [])] (32 : Nat))) T.leaf)) (4 : Nat))) (Sp (decide (m = (1 : Int))) (NZ (↑(List.length rows) : Int) ∧ K (Value.tuple (Array.mk [Value.int IntKind.i64 (Int.tmod (IntKind.wrap IntKind.i64 (wh + ti)) (↑(List.length rows) : Int)), Value.int IntKind.i64 (0 : Int)])) (AH.mk (T.node (T.node (T.node T.leaf (Option.some (AObj.cells [Value.int IntKind.i64 wh, Value.int IntKind.i64 ti, Value.int IntKind.i64 dr] (3 : Nat))) T.leaf) (Option.some (AObj.cells [Value.string n, Value.int IntKind.i64 m, Value.func (Go.Fn.yield (1 : Nat)) (Array.mk cols) (Array.mk []), Value.func (Go.Fn.yield (1 : Nat)) (Array.mk rows) (Array.mk [])] (32 : Nat))) T.leaf) (Option.some (AObj.cells [Value.string n, Value.int IntKind.i64 m, Value.func (Go.Fn.yield (1 : Nat)) (Array.mk cols) (Array.mk []), Value.func (Go.Fn.yield (1 : Nat)) (Array.mk rows) (Array.mk [])] (32 : Nat))) (T.node T.leaf (Option.some (AObj.cells [Value.string n, Value.int IntKind.i64 m, Value.func (Go.Fn.yield (1 : Nat)) (Array.mk cols) (Array.mk []), Value.func (Go.Fn.yield (1 : Nat)) (Array.mk rows) (Array.mk [])] (32 : Nat))) T.leaf)) (4 : Nat))) (K (Value.tuple (Array.mk [Value.int IntKind.i64 (blW sd (4 : Int) wh dr (↑(List.length rows) : Int)), Value.int IntKind.i64 (0 : Int)])) (AH.mk (T.node (T.node (T.node T.leaf (Option.some (AObj.cells [Value.int IntKind.i64 wh, Value.int IntKind.i64 ti, Value.int IntKind.i64 dr] (3 : Nat))) T.leaf) (Option.some (AObj.cells [Value.string n, Value.int IntKind.i64 m, Value.func (Go.Fn.yield (1 : Nat)) (Array.mk cols) (Array.mk []), Value.func (Go.Fn.yield (1 : Nat)) (Array.mk rows) (Array.mk [])] (32 : Nat))) T.leaf) (Option.some (AObj.cells [Value.string n, Value.int IntKind.i64 m, Value.func (Go.Fn.yield (1 : Nat)) (Array.mk cols) (Array.mk []), Value.func (Go.Fn.yield (1 : Nat)) (Array.mk rows) (Array.mk [])] (32 : Nat))) (T.node T.leaf (Option.some (AObj.cells [Value.string n, Value.int IntKind.i64 m, Value.func (Go.Fn.yield (1 : Nat)) (Array.mk cols) (Array.mk []), Value.func (Go.Fn.yield (1 : Nat)) (Array.mk rows) (Array.mk [])] (32 : Nat))) T.leaf)) (4 : Nat))))))))))) (Sp (decide (wh < (0 : Int))) (K (Value.tuple (Array.mk [Value.int IntKind.i64 (0 : Int), Value.int IntKind.i64 (9 : Int)])) (AH.mk (T.node (T.node (T.node T.leaf (Option.some (AObj.cells [Value.int IntKind.i64 wh, Value.int IntKind.i64 ti, Value.int IntKind.i64 dr] (3 : Nat))) T.leaf) (Option.some (AObj.cells [Value.string n, Value.int IntKind.i64 m, Value.func (Go.Fn.yield (1 : Nat)) (Array.mk cols) (Array.mk []), Value.func (Go.Fn.yield (1 : Nat)) (Array.mk rows) (Array.mk [])] (32 : Nat))) T.leaf) (Option.some (AObj.cells [Value.string n, Value.int IntKind.i64 m, Value.func (Go.Fn.yield (1 : Nat)) (Array.mk cols) (Array.mk []), Value.func (Go.Fn.yield (1 : Nat)) (Array.mk rows) (Array.mk [])] (32 : Nat))) (T.node T.leaf (Option.some (AObj.cells [Value.string n, Value.int IntKind.i64 m, Value.func (Go.Fn.yield (1 : Nat)) (Array.mk cols) (Array.mk []), Value.func (Go.Fn.yield (1 : Nat)) (Array.mk rows) (Array.mk [])] (32 : Nat))) T.leaf)) (4 : Nat))) (Sp (decide ((1000000000000 : Int) < wh)) (K (Value.tuple (Array.mk [Value.int IntKind.i64 (0 : Int), Value.int IntKind.i64 (9 : Int)])) (AH.mk (T.node (T.node (T.node T.leaf (Option.some (AObj.cells [Value.int IntKind.i64 wh, Value.int IntKind.i64 ti, Value.int IntKind.i64 dr] (3 : Nat))) T.leaf) (Option.some (AObj.cells [Value.string n, Value.int IntKind.i64 m, Value.func (Go.Fn.yield (1 : Nat)) (Array.mk cols) (Array.mk []), Value.func (Go.Fn.yield (1 : Nat)) (Array.mk rows) (Array.mk [])] (32 : Nat))) T.leaf) (Option.some (AObj.cells [Value.string n, Value.int IntKind.i64 m, Value.func (Go.Fn.yield (1 : Nat)) (Array.mk cols) (Array.mk []), Value.func (Go.Fn.yield (1 : Nat)) (Array.mk rows) (Array.mk [])] (32 : Nat))) (T.node T.leaf (Option.some (AObj.cells [Value.string n, Value.int IntKind.i64 m, Value.func (Go.Fn.yield (1 : Nat)) (Array.mk cols) (Array.mk []), Value.func (Go.Fn.yield (1 : Nat)) (Array.mk rows) (Array.mk [])] (32 : Nat))) T.leaf)) (4 : Nat))) (Sp (decide (ti < (0 : Int))) (K (Value.tuple (Array.mk [Value.int IntKind.i64 (0 : Int), Value.int IntKind.i64 (9 : Int)])) (AH.mk (T.node (T.node (T.node T.leaf (Option.some (AObj.cells [Value.int IntKind.i64 wh, Value.int IntKind.i64 ti, Value.int IntKind.i64 dr] (3 : Nat))) T.leaf) (Option.some (AObj.cells [Value.string n, Value.int IntKind.i64 m, Value.func (Go.Fn.yield (1 : Nat)) (Array.mk cols) (Array.mk []), Value.func (Go.Fn.yield (1 : Nat)) (Array.mk rows) (Array.mk [])] (32 : Nat))) T.leaf) (Option.some (AObj.cells [Value.string n, Value.int IntKind.i64 m, Value.func (Go.Fn.yield (1 : Nat)) (Array.mk cols) (Array.mk []), Value.func (Go.Fn.yield (1 : Nat)) (Array.mk rows) (Array.mk [])] (32 : Nat))) (T.node T.leaf (Option.some (AObj.cells [Value.string n, Value.int IntKind.i64 m, Value.func (Go.Fn.yield (1 : Nat)) (Array.mk cols) (Array.mk []), Value.func (Go.Fn.yield (1 : Nat)) (Array.mk rows) (Array.mk [])] (32 : Nat))) T.leaf)) (4 : Nat))) (Sp (decide ((1000000000000 : Int) < ti)) (K (Value.tuple (Array.mk [Value.int IntKind.i64 (0 : Int), Value.int IntKind.i64 (9 : Int)])) (AH.mk (T.node (T.node (T.node T.leaf (Option.some (AObj.cells [Value.int IntKind.i64 wh, Value.int IntKind.i64 ti, Value.int IntKind.i64 dr] (3 : Nat))) T.leaf) (Option.some (AObj.cells [Value.string n, Value.int IntKind.i64 m, Value.func (Go.Fn.yield (1 : Nat)) (Array.mk cols) (Array.mk []), Value.func (Go.Fn.yield (1 : Nat)) (Array.mk rows) (Array.mk [])] (32 : Nat))) T.leaf) (Option.some (AObj.cells [Value.string n, Value.int IntKind.i64 m, Value.func (Go.Fn.yield (1 : Nat)) (Array.mk cols) (Array.mk []), Value.func (Go.Fn.yield (1 : Nat)) (Array.mk rows) (Array.mk [])] (32 : Nat))) (T.node T.leaf (Option.some (AObj.cells [Value.string n, Value.int IntKind.i64 m, Value.func (Go.Fn.yield (1 : Nat)) (Array.mk cols) (Array.mk []), Value.func (Go.Fn.yield (1 : Nat)) (Array.mk rows) (Array.mk [])] (32 : Nat))) T.leaf)) (4 : Nat))) (Sp (decide (dr < (0 : Int))) (K (Value.tuple (Array.mk [Value.int IntKind.i64 (0 : Int), Value.int IntKind.i64 (9 : Int)])) (AH.mk (T.node (T.node (T.node T.leaf (Option.some (AObj.cells [Value.int IntKind.i64 wh, Value.int IntKind.i64 ti, Value.int IntKind.i64 dr] (3 : Nat))) T.leaf) (Option.some (AObj.cells [Value.string n, Value.int IntKind.i64 m, Value.func (Go.Fn.yield (1 : Nat)) (Array.mk cols) (Array.mk []), Value.func (Go.Fn.yield (1 : Nat)) (Array.mk rows) (Array.mk [])] (32 : Nat))) T.leaf) (Option.some (AObj.cells [Value.string n, Value.int IntKind.i64 m, Value.func (Go.Fn.yield (1 : Nat)) (Array.mk cols) (Array.mk []), Value.func (Go.Fn.yield (1 : Nat)) (Array.mk rows) (Array.mk [])] (32 : Nat))) (T.node T.leaf (Option.some (AObj.cells [Value.string n, Value.int IntKind.i64 m, Value.func (Go.Fn.yield (1 : Nat)) (Array.mk cols) (Array.mk []), Value.func (Go.Fn.yield (1 : Nat)) (Array.mk rows) (Array.mk [])] (32 : Nat))) T.leaf)) (4 : Nat))) (Sp (decide ((1000000000000 : Int) < dr)) (K (Value.tuple (Array.mk [Value.int IntKind.i64 (0 : Int), Value.int IntKind.i64 (9 : Int)])) (AH.mk (T.node (T.node (T.node T.leaf (Option.some (AObj.cells [Value.int IntKind.i64 wh, Value.int IntKind.i64 ti, Value.int IntKind.i64 dr] (3 : Nat))) T.leaf) (Option.some (AObj.cells [Value.string n, Value.int IntKind.i64 m, Value.func (Go.Fn.yield (1 : Nat)) (Array.mk cols) (Array.mk []), Value.func (Go.Fn.yield (1 : Nat)) (Array.mk rows) (Array.mk [])] (32 : Nat))) T.leaf) (Option.some (AObj.cells [Value.string n, Value.int IntKind.i64 m, Value.func (Go.Fn.yield (1 : Nat)) (Array.mk cols) (Array.mk []), Value.func (Go.Fn.yield (1 : Nat)) (Array.mk rows) (Array.mk [])] (32 : Nat))) (T.node T.leaf (Option.some (AObj.cells [Value.string n, Value.int IntKind.i64 m, Value.func (Go.Fn.yield (1 : Nat)) (Array.mk cols) (Array.mk []), Value.func (Go.Fn.yield (1 : Nat)) (Array.mk rows) (Array.mk [])] (32 : Nat))) T.leaf)) (4 : Nat))) (Sp (decide (m = (1 : Int))) (NZ (↑(List.length rows) : Int) ∧ K (Value.tuple (Array.mk [Value.int IntKind.i64 (Int.tmod (IntKind.wrap IntKind.i64 (wh + ti)) (↑(List.length rows) : Int)), Value.int IntKind.i64 (0 : Int)])) (AH.mk (T.node (T.node (T.node T.leaf (Option.some (AObj.cells [Value.int IntKind.i64 wh, Value.int IntKind.i64 ti, Value.int IntKind.i64 dr] (3 : Nat))) T.leaf) (Option.some (AObj.cells [Value.string n, Value.int IntKind.i64 m, Value.func (Go.Fn.yield (1 : Nat)) (Array.mk cols) (Array.mk []), Value.func (Go.Fn.yield (1 : Nat)) (Array.mk rows) (Array.mk [])] (32 : Nat))) T.leaf) (Option.some (AObj.cells [Value.string n, Value.int IntKind.i64 m, Value.func (Go.Fn.yield (1 : Nat)) (Array.mk cols) (Array.mk []), Value.func (Go.Fn.yield (1 : Nat)) (Array.mk rows) (Array.mk [])] (32 : Nat))) (T.node T.leaf (Option.some (AObj.cells [Value.string n, Value.int IntKind.i64 m, Value.func (Go.Fn.yield (1 : Nat)) (Array.mk cols) (Array.mk []), Value.func (Go.Fn.yield (1 : Nat)) (Array.mk rows) (Array.mk [])] (32 : Nat))) T.leaf)) (4 : Nat))) (K (Value.tuple (Array.mk [Value.int IntKind.i64 (blW sd (4 : Int) wh dr (↑(List.length rows) : Int)), Value.int IntKind.i64 (0 : Int)])) (AH.mk (T.node (T.node (T.node T.leaf (Option.some (AObj.cells [Value.int IntKind.i64 wh, Value.int IntKind.i64 ti, Value.int IntKind.i64 dr] (3 : Nat))) T.leaf) (Option.some (AObj.cells [Value.string n, Value.int IntKind.i64 m, Value.func (Go.Fn.yield (1 : Nat)) (Array.mk cols) (Array.mk []), Value.func (Go.Fn.yield (1 : Nat)) (Array.mk rows) (Array.mk [])] (32 : Nat))) T.leaf) (Option.some (AObj.cells [Value.string n, Value.int IntKind.i64 m, Value.func (Go.Fn.yield (1 : Nat)) (Array.mk cols) (Array.mk []), Value.func (Go.Fn.yield (1 : Nat)) (Array.mk rows) (Array.mk [])] (32 : Nat))) (T.node T.leaf (Option.some (AObj.cells [Value.string n, Value.int IntKind.i64 m, Value.func (Go.Fn.yield (1 : Nat)) (Array.mk cols) (Array.mk []), Value.func (Go.Fn.yield (1 : Nat)) (Array.mk rows) (Array.mk [])] (32 : Nat))) T.leaf)) (4 : Nat)))))))))))) := by kernel_rfl
theorem rr_walk (n : SB) (m : Int) (cs : List SB) (rs : List (List SB)) (sd wh ti dr : Int) (hn : n.size < 9223372036854775808) (hb : ∀ s ∈ cs, s.size < 9223372036854775808) :
    Walk env Proofs.Tryz.f12 [fdv n m (sv cs) (rv rs), .int .i64 sd, .int .i64 wh, .int .i64 ti, .int .i64 dr] (rwR n m cs rs sd wh ti dr) := by
  refine sxFn_frz XRr_ok (d := 4) ((jRr_nf _ n m _ _ sd wh ti dr).mpr ?_)
  rw [unS_sv, unR_rv]
  refine ⟨hn, ?_⟩
  unfold rwR rwN inW
  cases h1 : nameB n with
  | false => exact Frz.same (HF_tup _ _)
  | true =>
    simp only [Bool.not_true, SpF, cond_true]
    refine ⟨⟨cs, rs, rfl, rfl, hb⟩, ?_⟩
    cases h2 : decide (fdF m cs rs = 0) with
    | false => exact Frz.same (HF_tup _ _)
    | true =>
      obtain ⟨hm, hr1, hr2⟩ := fdF_rows (of_decide_eq_true h2)
      have hl : ((rv rs).length : Int) = rs.length := by rw [rv_len]
      simp only [Bool.not_true, Bool.not_false, SpF, SpT, cond_true, hl]
      have hz : (rs.length : Int) ≠ 0 := by omega
      cases h3 : decide (wh < 0) <;> cases h4 : decide (1000000000000 < wh) <;> cases h5 : decide (ti < 0) <;> cases h6 : decide (1000000000000 < ti) <;> cases h7 : decide (dr < 0) <;> cases h8 : decide (1000000000000 < dr) <;> simp only [Bool.not_true, Bool.not_false, SpF, SpT, cond_true, cond_false, Bool.and_true, Bool.and_false, Bool.true_and, Bool.false_and] <;> first
        | exact Frz.same (HF_tup _ _)
        | skip
      cases h9 : decide (m = 1) with
      | true => exact ⟨hz, Frz.same (HF_tup _ _)⟩
      | false => exact Frz.same (HF_tup _ _)
theorem rr_tab : ∀ args A p v A', pureR rwPre rwX args A = some (p, v, A') → PH p → CallAt env 12 args A v A' := walk_tab env_ok env_gl (fn := Proofs.Tryz.f12) rfl fun args v h hp => by
  unfold rwX at h
  split at h
  · simp only [Option.some.injEq] at h
    subst h
    obtain ⟨hn, cs, rs, rfl, rfl, hb⟩ := hp
    refine ⟨HF.cons (HF_fd _ _ cs rs) (HF.cons (HFi _ _) (HF.cons (HFi _ _) (HF.cons (HFi _ _) (HF.cons (HFi _ _) HF.nil)))), ?_⟩
    rw [unS_sv, unR_rv]
    rename_i n m sd wh ti dr
    have := rr_walk n m cs rs sd wh ti dr hn hb
    rw [rwR_eq] at this
    exact this
  · cases h
def tabLw : Tab := [(11, pureR rwPre rwX), (12, pureR rwPre rwX), (10, pureR (fun _ => none) walkP)]
theorem tabLw_ok : TabOk env tabLw := .cons row_tab (.cons rr_tab (.cons (con_tab walkP_con) .nil))
def XLw : SX := ⟨env, tabLw, noEl, fun _ => .unroll 0⟩
theorem XLw_ok : XLw.Ok := ⟨env_ok, env_sym, env_gl, tabLw_ok⟩
def jLw (K : KV) (n : SB) (m : Int) (cols rows : List Value) (sd wh ti dr : Int) : Prop := sxFn XLw 1 Proofs.Tryz.f4 [fdv n m cols rows, .int .i64 sd, .int .i64 wh, .int .i64 ti, .int .i64 dr] K
end
end Go.T9
set_option maxRecDepth 1000000
set_option linter.unusedVariables false
set_option linter.unusedSimpArgs false
set_option maxHeartbeats 4000000
namespace Go.T9
open Go Go.AM Go.MK
noncomputable section
theorem jLw_nf (K : KV) (n : SB) (m : Int) (cols : List Go.Value) (rows : List Go.Value) (sd : Int) (wh : Int) (ti : Int) (dr : Int) : jLw K n m cols rows sd wh ti dr = ((ByteArray.size n < (9223372036854775808 : Nat) ∧ ∃ (cs : List SB), ∃ (rs : List (List SB)), cols = sv cs ∧ rows = rv rs ∧ ∀ (s : SB), s ∈ cs → ByteArray.size s < (9223372036854775808 : Nat)) ∧ (ByteArray.size n < (9223372036854775808 : Nat) ∧ ∃ (cs : List SB), ∃ (rs : List (List SB)), cols = sv cs ∧ rows = rv rs ∧ ∀ (s : SB), s ∈ cs → ByteArray.size s < (9223372036854775808 : Nat)) ∧ Sp (decide (rwA n m (unS cols) (unR rows) sd wh ti dr = rwA n m (unS cols) (unR rows) sd wh ti dr)) (Sp (decide (rwE n m (unS cols) (unR rows) wh ti dr = rwE n m (unS cols) (unR rows) wh ti dr)) (K (Value.bool Bool.true) (AH.mk (T.node T.leaf (Option.some (AObj.cells [Value.string n, Value.int IntKind.i64 m, Value.func (Go.Fn.yield (1 : Nat)) (Array.mk cols) (Array.mk []), Value.func (Go.Fn.yield (1 : Nat)) (Array.mk rows) (Array.mk [])] (32 : Nat))) T.leaf) (1 : Nat))) (K (Value.bool Bool.false) (AH.mk (T.node T.leaf (Option.some (AObj.cells [Value.string n, Value.int IntKind.i64 m, Value.func (Go.Fn.yield (1 : Nat)) (Array.mk cols) (Array.mk []), Value.func (Go.Fn.yield (1 : Nat)) (Array.mk rows) (Array.mk [])] (32 : Nat))) T.leaf) (1 : Nat)))) (K (Value.bool Bool.false) (AH.mk (T.node T.leaf (Option.some (AObj.cells [Value.string n, Value.int IntKind.i64 m, Value.func (Go.Fn.yield (1 : Nat)) (Array.mk cols) (Array.mk []), Value.func (Go.Fn.yield (1 : Nat)) (Array.mk rows) (Array.mk [])] (32 : Nat))) T.leaf) (1 : Nat)))) := by kernel_rfl
theorem law_walk (n : SB) (m : Int) (cs : List SB) (rs : List (List SB)) (sd wh ti dr : Int) (hn : n.size < 9223372036854775808) (hb : ∀ s ∈ cs, s.size < 9223372036854775808) :
    Walk env Proofs.Tryz.f4 [fdv n m (sv cs) (rv rs), .int .i64 sd, .int .i64 wh, .int .i64 ti, .int .i64 dr] (.bool true) := by
  refine sxFn_frz XLw_ok (d := 1) ((jLw_nf _ n m _ _ sd wh ti dr).mpr ?_)
  simp only [decide_true, SpT]
  exact ⟨⟨hn, cs, rs, rfl, rfl, hb⟩, ⟨hn, cs, rs, rfl, rfl, hb⟩, Frz.same (HFb _)⟩
theorem row_law (n : SB) (m : Int) (cs : List SB) (rs : List (List SB)) (sd wh ti dr : Int) (hn : n.size < 9223372036854775808) (hb : ∀ s ∈ cs, s.size < 9223372036854775808) (w : World) {v : Value} (hv : VR (sig0 w) (fdv n m (sv cs) (rv rs)) v) :
    Calls Proofs.Tryz.prog 4 #[v, .int .i64 sd, .int .i64 wh, .int .i64 ti, .int .i64 dr] w fun e w' => e = .returned (.bool true) ∧ RowKit.Below w.heap.size w w' :=
  calls_flat (con_one env_ok env_gl (fn := Proofs.Tryz.f4) rfl (HF.cons (HF_fd n m cs rs) (HF.cons (HFi _ _) (HF.cons (HFi _ _) (HF.cons (HFi _ _) (HF.cons (HFi _ _) HF.nil))))) (law_walk n m cs rs sd wh ti dr hn hb)) (one_self _ _) rfl w (env_none w) (.cons hv (.cons (.int _ _) (.cons (.int _ _) (.cons (.int _ _) (.cons (.int _ _) .nil)))))
abbrev SZ := {s : SB // s.size < 9223372036854775808}
theorem opens_sz : Opens Proofs.Tryz.prog 9 (fun acs => ∃ x : SZ, acs = (Value.string x.1).cells.toList) := by
  intro H enc w base sp held fuel cs x hx
  obtain ⟨acs, ⟨s, rfl, hs⟩, hv⟩ := opens_string Proofs.Tryz.underlying9 enc w base sp held fuel cs x hx
  exact ⟨_, ⟨⟨s, by unfold maxLen at hs; omega⟩, rfl⟩, hv⟩
theorem opens_ss : Opens Proofs.Tryz.prog 29 (fun acs => ∃ xs : List SZ, acs = [.func (.yield 1) ⟨xs.map fun x => Value.string x.1⟩ ⟨[]⟩] ∧ xs.length ≤ maxLen) :=
  opens_slice (sz := 1) (ev := fun x : SZ => Value.string x.1) Proofs.Tryz.underlying29 (by kernel_rfl) (by decide) (fun _ => rfl) opens_sz (fun _ h => h)
theorem opens_rr : Opens Proofs.Tryz.prog 30 (fun acs => ∃ xs : List (List SZ), acs = [.func (.yield 1) ⟨xs.map fun r => dat 1 (r.map fun x => Value.string x.1)⟩ ⟨[]⟩] ∧ xs.length ≤ maxLen) :=
  opens_slice (sz := 1) (ev := fun r : List SZ => dat 1 (r.map fun x => Value.string x.1)) Proofs.Tryz.underlying30 (by kernel_rfl) (by decide) (fun _ => rfl) opens_ss (fun _ h => by obtain ⟨xs, rfl, _⟩ := h; exact ⟨xs, rfl⟩)
theorem opens_fd : Opens Proofs.Tryz.prog 32 (fun acs => ∃ (n : SZ) (m : Int) (cs : List SZ) (rs : List (List SZ)), Value.agg ⟨acs⟩ = fdv n.1 m (cs.map fun x => Value.string x.1) (rs.map fun r => dat 1 (r.map fun x => Value.string x.1))) := by
  intro H enc w base sp held fuel cs x hx
  obtain ⟨acs, hR, hv⟩ := opens_struct Proofs.Tryz.underlying32 (by kernel_rfl) (.cons (by kernel_rfl) opens_sz (.cons (by kernel_rfl) (opens_int Proofs.Tryz.underlying3) (.cons (by kernel_rfl) opens_ss (.cons (by kernel_rfl) opens_rr .nil)))) enc w base sp held fuel cs x hx
  obtain ⟨_, _, ⟨n, rfl⟩, ⟨_, _, ⟨m, rfl, _⟩, ⟨_, _, ⟨c, rfl, _⟩, ⟨_, _, ⟨r, rfl, _⟩, rfl, rfl⟩, rfl⟩, rfl⟩, rfl⟩ := hR
  exact ⟨_, ⟨n, m, c, r, rfl⟩, hv⟩
theorem arg_fd {H : Type} {enc : TypeId × Value → H} {w : World} {r : Reach} {b0 base : Nat} {sp : Nat → Bool} {held : Bool} {v : Value} {d : DataW H} {ps : List MemPlace} (hv : Value.okWide Proofs.Tryz.prog w r b0 32 v) (hT : DataW.Trod enc Proofs.Tryz.prog w base sp held 32 v d ps) :
    ∃ (n : SB) (m : Int) (cs : List SB) (rs : List (List SB)), n.size < 9223372036854775808 ∧ (∀ s ∈ cs, s.size < 9223372036854775808) ∧ VR (sig0 w) (fdv n m (sv cs) (rv rs)) v := by
  obtain ⟨acs, ⟨n, m, cs, rs, hp⟩, h⟩ := arg_struct Proofs.Tryz.underlying32 opens_fd hv hT
  refine ⟨n.1, m, cs.map (·.1), rs.map (fun r => r.map (·.1)), n.2, fun s hs => ?_, ?_⟩
  · obtain ⟨x, _, rfl⟩ := List.mem_map.1 hs; exact x.2
  · have e1 : sv (cs.map (·.1)) = cs.map fun x => Value.string x.1 := by unfold sv; rw [List.map_map]; rfl
    have e2 : rv (rs.map (fun r => r.map (·.1))) = rs.map fun r => dat 1 (r.map fun x => Value.string x.1) := by
      unfold rv; rw [List.map_map]
      exact List.map_congr_left fun r _ => by show dat 1 (sv (r.map (·.1))) = _; unfold sv; rw [List.map_map]; rfl
    rw [e1, e2]; exact hp ▸ h
end
end Go.T9
