/- A part of the proof. -/
import Derived.Test.YtibbcafgmjcilaaGreatDoorU1
import Derived.KernelRfl
set_option maxRecDepth 1000000
set_option linter.unusedVariables false
set_option linter.unusedSimpArgs false
set_option maxHeartbeats 4000000
namespace Go.T9
open Go Go.AM Go.MK
noncomputable section
def jRl (K : KV) (c : Int) : Prop := sxFn XJ0 1 Proofs.Tryz.f52 [.int .u8 c] K
end
end Go.T9
set_option maxRecDepth 1000000
set_option linter.unusedVariables false
set_option linter.unusedSimpArgs false
set_option maxHeartbeats 4000000
namespace Go.T9
open Go Go.AM Go.MK
noncomputable section
theorem jRl_nf (K : KV) (c : Int) : jRl K c = (Sp (decide ((97 : Int) ≤ c)) (Sp (decide (c ≤ (122 : Int))) (K (Value.bool Bool.true) (AH.mk T.leaf (0 : Nat))) (Sp (decide ((65 : Int) ≤ c)) (K (Value.bool (decide (c ≤ (90 : Int)))) (AH.mk T.leaf (0 : Nat))) (K (Value.bool Bool.false) (AH.mk T.leaf (0 : Nat))))) (Sp (decide ((65 : Int) ≤ c)) (K (Value.bool (decide (c ≤ (90 : Int)))) (AH.mk T.leaf (0 : Nat))) (K (Value.bool Bool.false) (AH.mk T.leaf (0 : Nat))))) := by kernel_rfl
theorem rl_walk (c : Int) : Walk env Proofs.Tryz.f52 [.int .u8 c] (.bool (lB c)) := by
  refine sxFn_frz XJ0_ok (d := 1) ((jRl_nf _ c).mpr ?_)
  unfold lB
  cases decide (97 ≤ c) <;> cases decide (c ≤ 122) <;> cases decide (65 ≤ c) <;> cases decide (c ≤ 90) <;> exact Frz.same (HFb _)
theorem rl_con : Con env 52 (pureX lbX) := con_pure env_ok env_gl (fn := Proofs.Tryz.f52) rfl fun args v h => by
  unfold lbX at h
  split at h
  · simp only [Option.some.injEq] at h
    subst h
    exact ⟨HF.cons (.scal rfl) HF.nil, rl_walk _⟩
  · cases h
def tabK1 : Tab := [(52, pureR (fun _ => none) lbX)]
theorem tabK1_ok : TabOk env tabK1 := .cons (con_tab rl_con) .nil
def XK1 : SX := ⟨env, tabK1, noEl, fun _ => .unroll 0⟩
theorem XK1_ok : XK1.Ok := ⟨env_ok, env_sym, env_gl, tabK1_ok⟩
def jRw (K : KV) (c : Int) : Prop := sxFn XK1 3 Proofs.Tryz.f51 [.int .u8 c] K
end
end Go.T9
set_option maxRecDepth 1000000
set_option linter.unusedVariables false
set_option linter.unusedSimpArgs false
set_option maxHeartbeats 4000000
namespace Go.T9
open Go Go.AM Go.MK
noncomputable section
theorem jRw_nf (K : KV) (c : Int) : jRw K c = (Sp (lB c) (K (Value.bool Bool.true) (AH.mk T.leaf (0 : Nat))) (Sp (decide ((48 : Int) ≤ c)) (Sp (decide (c ≤ (57 : Int))) (K (Value.bool Bool.true) (AH.mk T.leaf (0 : Nat))) (Sp (decide (c = (95 : Int))) (K (Value.bool Bool.true) (AH.mk T.leaf (0 : Nat))) (K (Value.bool (decide (c = (45 : Int)))) (AH.mk T.leaf (0 : Nat))))) (Sp (decide (c = (95 : Int))) (K (Value.bool Bool.true) (AH.mk T.leaf (0 : Nat))) (K (Value.bool (decide (c = (45 : Int)))) (AH.mk T.leaf (0 : Nat)))))) := by kernel_rfl
theorem rw_walk (c : Int) : Walk env Proofs.Tryz.f51 [.int .u8 c] (.bool (wB c)) := by
  refine sxFn_frz XK1_ok (d := 3) ((jRw_nf _ c).mpr ?_)
  unfold wB dB
  cases lB c <;> cases decide (48 ≤ c) <;> cases decide (c ≤ 57) <;> cases decide (c = 95) <;> cases decide (c = 45) <;> exact Frz.same (HFb _)
theorem rw_con : Con env 51 (pureX wbX) := con_pure env_ok env_gl (fn := Proofs.Tryz.f51) rfl fun args v h => by
  unfold wbX at h
  split at h
  · simp only [Option.some.injEq] at h
    subst h
    exact ⟨HF.cons (.scal rfl) HF.nil, rw_walk _⟩
  · cases h
def tabK2 : Tab := [(52, pureR (fun _ => none) lbX), (51, pureR (fun _ => none) wbX)]
theorem tabK2_ok : TabOk env tabK2 := .cons (con_tab rl_con) (.cons (con_tab rw_con) .nil)
def XK2 : SX := ⟨env, tabK2, noEl, fun _ => .auto [] [0, 3]⟩
theorem XK2_ok : XK2.Ok := ⟨env_ok, env_sym, env_gl, tabK2_ok⟩
def frIs (s : ByteArray) (i : Nat) : T Value := (.node (.node (.node .leaf (some (.int .i64 i)) .leaf) none .leaf) (some (.string s)) .leaf)
def jIs (Q : Value → Prop) (QA : KV) (s : ByteArray) : Prop := sxFn XK2 1 Proofs.Tryz.f27 [.string s] (leafK Q QA)
def jIs1 (Q : Value → Prop) (QA : KV) (again : KF) (s : ByteArray) (i : Nat) : Prop := sxStepA XK2 1 Proofs.Tryz.f27 [1, 0, 1, 0] (leafK Q QA) [] [0, 3] again (frIs s i) ⟨.leaf, 0⟩
end
end Go.T9
set_option maxRecDepth 1000000
set_option linter.unusedVariables false
set_option linter.unusedSimpArgs false
set_option maxHeartbeats 4000000
namespace Go.T9
open Go Go.AM Go.MK
noncomputable section
theorem jIs_nf (Q : Go.Value → Prop) (QA : KV) (s : ByteArray) : jIs Q QA s = (LAt XK2 (1 : Nat) (Go.Func.ntmps Go.Proofs.Tryz.f27) (bodyOf Go.Proofs.Tryz.f27) [(1 : Nat), (0 : Nat), (1 : Nat), (0 : Nat)] (finK (SX.E XK2) (Array.toList (Go.Func.results Go.Proofs.Tryz.f27)) (leafK Q QA)) (T.node (T.node (T.node T.leaf (Option.some (Value.int IntKind.i64 (0 : Int))) T.leaf) Option.none T.leaf) (Option.some (Value.string s)) T.leaf) (AH.mk T.leaf (0 : Nat))) := by kernel_rfl
theorem jIs1_nf (Q : Go.Value → Prop) (QA : KV) (again : KF) (s : ByteArray) (i : Nat) : jIs1 Q QA again s i = (Sp (decide ((↑i : Int) < (↑(ByteArray.size s) : Int))) (((0 : Int) ≤ (↑i : Int) ∧ (↑i : Int) < (↑(ByteArray.size s) : Int)) ∧ Sp (!wB (byteAt s (↑i : Int))) (Q (Value.bool Bool.false)) (again (T.node (T.node (T.node T.leaf (Option.some (Value.int IntKind.i64 (IntKind.wrap IntKind.i64 ((↑i : Int) + (1 : Int))))) T.leaf) Option.none T.leaf) (Option.some (Value.string s)) T.leaf) (AH.mk T.leaf (0 : Nat)))) (Sp (decide ((1 : Int) ≤ (↑(ByteArray.size s) : Int))) (Sp (decide ((↑(ByteArray.size s) : Int) ≤ (50 : Int))) (((0 : Int) ≤ (0 : Int) ∧ (0 : Int) < (↑(ByteArray.size s) : Int)) ∧ Q (Value.bool (lB (byteAt s (0 : Int))))) (Q (Value.bool Bool.false))) (Q (Value.bool Bool.false)))) := by kernel_rfl
theorem is_loop (Q : Value → Prop) (QA : KV) (s : ByteArray) (hs : s.size < 9223372036854775808) (hQ : Q (.bool (nameB s))) :
    LAt XK2 1 (Func.ntmps Proofs.Tryz.f27) (bodyOf Proofs.Tryz.f27) [1, 0, 1, 0] (finK XK2.E (Proofs.Tryz.f27.results).toList (leafK Q QA)) (frIs s 0) ⟨.leaf, 0⟩ := by
  have hsz : s.data.toList.length = s.size := by simp
  refine LAt.stepA XK2_ok [] [0, 3] (by kernel_rfl) (fun k F A => ∃ i : Nat, F = frIs s i ∧ A = ⟨.leaf, 0⟩ ∧ i + k = s.size ∧ s.data.toList.all (fun b => wB b.toNat) = (s.data.toList.drop i).all (fun b => wB b.toNat)) ?_ (k := s.size) ⟨0, rfl, rfl, by simp, by simp⟩
  rintro k F A ⟨i, rfl, rfl, hk, hall⟩
  refine (jIs1_nf _ _ _ s i).mpr ?_
  refine Sp.intro (fun c => ?_) (fun c => ?_)
  · have hlt : i < s.size := by simpa using c
    have hl : i < s.data.toList.length := by omega
    have hw : IntKind.i64.wrap ((i : Int) + 1) = ((i + 1 : Nat) : Int) := by rw [i64_in (by omega) (by omega)]; rfl
    rw [List.drop_eq_getElem_cons hl, List.all_cons] at hall
    simp only [byteAt_in hl, hw]
    refine ⟨by omega, Sp.intro (fun h => ?_) (fun h => ⟨k - 1, by omega, i + 1, rfl, by first | trivial | rfl, by omega, ?_⟩)⟩
    · have h0 : wB (s.data.toList[i].toNat : Int) = false := by simpa using h
      have : nameB s = false := by unfold nameB; rw [hall, h0]; rfl
      rw [this] at hQ; exact hQ
    · have h0 : wB (s.data.toList[i].toNat : Int) = true := by simpa using h
      rw [hall, h0]; rfl
  · have hn : s.data.toList.drop i = [] := List.drop_eq_nil_of_le (by simp at c; omega)
    rw [hn] at hall
    have hall : s.data.toList.all (fun b => wB b.toNat) = true := hall
    refine Sp.intro (fun h => Sp.intro (fun h2 => ?_) (fun h2 => ?_)) (fun h => ?_)
    · have h1 : 1 ≤ s.size := by simp at h; omega
      have e : nameB s = lB (byteAt s 0) := by unfold nameB; rw [hall]; simp [h1, show s.size ≤ 50 by simp at h2; omega]
      rw [e] at hQ
      exact ⟨by omega, hQ⟩
    · have e : nameB s = false := by unfold nameB; simp [show ¬ s.size ≤ 50 by simp at h2; omega]
      rw [e] at hQ; exact hQ
    · have e : nameB s = false := by unfold nameB; simp [show ¬ 1 ≤ s.size by simp at h; omega]
      rw [e] at hQ; exact hQ
theorem is_walk (s : ByteArray) (hs : s.size < 9223372036854775808) : Walk env Proofs.Tryz.f27 [.string s] (.bool (nameB s)) := by
  refine sxFn_plain XK2_ok (d := 1) (HFb _) ((jIs_nf _ _ s).mpr ?_)
  exact is_loop _ _ s hs rfl
theorem is_tab : ∀ args A p v A', pureR nmPre nmX args A = some (p, v, A') → PH p → CallAt env 27 args A v A' := walk_tab env_ok env_gl (fn := Proofs.Tryz.f27) rfl fun args v h hp => by
  unfold nmX at h
  split at h
  · simp only [Option.some.injEq] at h
    subst h
    exact ⟨HF.cons (.scal rfl) HF.nil, is_walk _ hp⟩
  · cases h
def tabK3 : Tab := [(27, pureR nmPre nmX)]
def elG : El := El.of (fun sz t els i => bif Nat.beq t 69 then some (dat 1 (rowAt els i)) else some (.string (strAt els i)))
def XG : SX := ⟨env, tabK3, elG, fun k => bif Nat.beq k 8 then .autoN [] [] [32] [1, 40, 41, 42] else bif Nat.beq k 13 then .autoN [] [] [32] [1, 4, 40, 41, 42, 53, 54, 55] else bif Nat.beq k 20 then .autoN [] [] [32] [1, 65, 66, 67] else .autoN [] [] [32] [1, 65, 66, 67, 77, 78, 79]⟩
def frG1 (cols : List Value) (i : Nat) : T Value := (.node (.node .leaf (some (.pointer (some ⟨0, 0, none⟩))) (.node (.node .leaf none (.node (.node .leaf (some (.int .i64 cols.length)) .leaf) none .leaf)) none .leaf)) none (.node (.node (.node .leaf none (.node (.node .leaf (some (dat 1 cols)) .leaf) none .leaf)) none .leaf) none (.node (.node .leaf none (.node (.node .leaf (some (.int .i64 i)) .leaf) none .leaf)) none .leaf)))
def frG2 (cols : List Value) (i : Nat) (c : SB) (pre : List Value) (j : Nat) : T Value := (.node (.node (.node (.node .leaf none (.node .leaf none (.node .leaf (some (.int .i64 j)) .leaf))) none .leaf) (some (.pointer (some ⟨0, 0, none⟩))) (.node (.node .leaf none (.node (.node .leaf (some (.int .i64 cols.length)) .leaf) none .leaf)) none (.node (.node .leaf none (.node .leaf (some (dat 1 pre)) .leaf)) none .leaf))) none (.node (.node (.node .leaf none (.node (.node .leaf (some (dat 1 cols)) .leaf) none .leaf)) (some (.string c)) .leaf) none (.node (.node .leaf none (.node (.node .leaf (some (.int .i64 i)) .leaf) none .leaf)) none (.node (.node .leaf none (.node .leaf (some (.int .i64 pre.length)) .leaf)) none .leaf))))
def frG3 (rows : List Value) (i : Nat) : T Value := (.node (.node (.node .leaf none (.node (.node (.node (.node .leaf (some (.int .i64 i)) .leaf) none .leaf) none .leaf) none .leaf)) (some (.pointer (some ⟨0, 0, none⟩))) (.node (.node (.node (.node (.node .leaf (some (dat 1 rows)) .leaf) none .leaf) none .leaf) none .leaf) none .leaf)) none (.node .leaf none (.node (.node (.node (.node (.node .leaf (some (.int .i64 rows.length)) .leaf) none .leaf) none .leaf) none .leaf) none .leaf)))
def frG4 (rows : List Value) (i : Nat) (r : List Value) (j : Nat) : T Value := (.node (.node (.node (.node (.node .leaf none (.node (.node .leaf (some (.int .i64 j)) .leaf) none .leaf)) none .leaf) none (.node (.node (.node (.node .leaf (some (.int .i64 i)) .leaf) none .leaf) none .leaf) none .leaf)) (some (.pointer (some ⟨0, 0, none⟩))) (.node (.node (.node (.node (.node .leaf (some (dat 1 rows)) .leaf) none .leaf) none .leaf) none .leaf) none (.node .leaf none (.node (.node (.node .leaf (some (dat 1 r)) .leaf) none .leaf) none .leaf)))) none (.node .leaf none (.node (.node (.node (.node (.node .leaf (some (.int .i64 rows.length)) .leaf) none .leaf) none .leaf) none .leaf) none (.node .leaf none (.node (.node (.node .leaf (some (.int .i64 r.length)) .leaf) none .leaf) none .leaf)))))
def ntG : Nat := Func.ntmps Proofs.Tryz.f28
def bdG : Code := bodyOf Proofs.Tryz.f28
def kFinG (K : KV) : KX := finK XG.E (Proofs.Tryz.f28.results).toList K
def jFf (K : KV) (n : SB) (m : Int) (cols rows : List Value) : Prop := sxFnZ XG 1 Proofs.Tryz.f28 [fdv n m cols rows] ⟨.leaf, 0⟩ K
def cG1 : Code := loopBody (subC [1, 1, 1, 1, 0, 1, 0] bdG)
def kG1 (K : KV) (again : KF) : KX := stepZ XG 1 ntG ⟨.leaf, 0⟩ bdG [1, 1, 1, 1, 0, 1, 0] (kFinG K) [] [] [32] [1, 40, 41, 42] again
def jFf1 (K : KV) (again : KF) (n : SB) (m : Int) (cols rows : List Value) (i : Nat) : Prop := sxStepZ XG 1 ntG ⟨.leaf, 0⟩ bdG [1, 1, 1, 1, 0, 1, 0] (kFinG K) [] [] [32] [1, 40, 41, 42] again (frG1 cols i) (hF0 n m cols rows)
def jFf2 (K : KV) (again0 again : KF) (n : SB) (m : Int) (cols rows : List Value) (i : Nat) (c : SB) (pre : List Value) (j : Nat) : Prop := sxStepZ XG 1 ntG ⟨.leaf, 0⟩ cG1 [1, 1, 0, 0, 1, 1, 1, 0] (kG1 K again0) [] [] [32] [1, 4, 40, 41, 42, 53, 54, 55] again (frG2 cols i c pre j) (hF0 n m cols rows)
def cG3 : Code := loopBody (subC [1, 1, 1, 1, 1, 0, 1, 0] bdG)
def kG3 (K : KV) (again : KF) : KX := stepZ XG 1 ntG ⟨.leaf, 0⟩ bdG [1, 1, 1, 1, 1, 0, 1, 0] (kFinG K) [] [] [32] [1, 65, 66, 67] again
def jFf3 (K : KV) (again : KF) (n : SB) (m : Int) (cols rows : List Value) (i : Nat) : Prop := sxStepZ XG 1 ntG ⟨.leaf, 0⟩ bdG [1, 1, 1, 1, 1, 0, 1, 0] (kFinG K) [] [] [32] [1, 65, 66, 67] again (frG3 rows i) (hF0 n m cols rows)
def jFf4 (K : KV) (again0 again : KF) (n : SB) (m : Int) (cols rows : List Value) (i : Nat) (r : List Value) (j : Nat) : Prop := sxStepZ XG 1 ntG ⟨.leaf, 0⟩ cG3 [1, 1, 0, 0, 1, 1, 1, 0] (kG3 K again0) [] [] [32] [1, 65, 66, 67, 77, 78, 79] again (frG4 rows i r j) (hF0 n m cols rows)
end
end Go.T9
