/- A part of the proof. -/
import Derived.Test.YtibbcafgmjcilaaGreatDoorY0
import Derived.Test.YtibbcafgmjcilaaGreatDoorF
import Derived.KernelRfl
set_option maxRecDepth 1000000
set_option linter.unusedVariables false
set_option linter.unusedSimpArgs false
namespace Go.T9
open Go Go.AM
noncomputable section
def lB (c : Int) : Bool := (decide (97 ≤ c) && decide (c ≤ 122)) || (decide (65 ≤ c) && decide (c ≤ 90))
def dB (c : Int) : Bool := decide (48 ≤ c) && decide (c ≤ 57)
def wB (c : Int) : Bool := (lB c || dB c) || (decide (c = 95) || decide (c = 45))
def XJ0 : SX := ⟨env, [], noEl, fun _ => .unroll 0⟩
theorem XJ0_ok : XJ0.Ok := ⟨env_ok, env_sym, env_gl, .nil⟩
def jLt (K : KV) (c : Int) : Prop := sxFn XJ0 1 Proofs.Tryz.f50 [.int .u8 c] K
def jIn (K : KV) (c : Int) : Prop := sxFn XJ0 3 Proofs.Tryz.f49 [.int .u8 c] K
end
end Go.T9
set_option maxRecDepth 1000000
set_option linter.unusedVariables false
set_option linter.unusedSimpArgs false
namespace Go.T9
open Go Go.AM
noncomputable section
theorem jLt_nf (K : KV) (c : Int) : jLt K c = (Sp (decide ((97 : Int) ≤ c)) (Sp (decide (c ≤ (122 : Int))) (K (Value.bool Bool.true) (AH.mk T.leaf (0 : Nat))) (Sp (decide ((65 : Int) ≤ c)) (K (Value.bool (decide (c ≤ (90 : Int)))) (AH.mk T.leaf (0 : Nat))) (K (Value.bool Bool.false) (AH.mk T.leaf (0 : Nat))))) (Sp (decide ((65 : Int) ≤ c)) (K (Value.bool (decide (c ≤ (90 : Int)))) (AH.mk T.leaf (0 : Nat))) (K (Value.bool Bool.false) (AH.mk T.leaf (0 : Nat))))) := by kernel_rfl
theorem lt_walk (c : Int) : Walk env Proofs.Tryz.f50 [.int .u8 c] (.bool (lB c)) := by
  refine sxFn_frz XJ0_ok (d := 1) ((jLt_nf _ c).mpr ?_)
  unfold lB
  cases decide (97 ≤ c) <;> cases decide (c ≤ 122) <;> cases decide (65 ≤ c) <;> cases decide (c ≤ 90) <;> exact Frz.same (HFb _)
def lbX : List Value → Option Value
  | [.int .u8 c] => some (.bool (lB c))
  | _ => none
theorem lt_con : Con env 50 (pureX lbX) := con_pure env_ok env_gl (fn := Proofs.Tryz.f50) rfl fun args v h => by
  unfold lbX at h
  split at h
  · simp only [Option.some.injEq] at h
    subst h
    exact ⟨HF.cons (.scal rfl) HF.nil, lt_walk _⟩
  · cases h
def tabJ1 : Tab := [(50, pureR (fun _ => none) lbX)]
theorem tabJ1_ok : TabOk env tabJ1 := .cons (con_tab lt_con) .nil
def XJ1 : SX := ⟨env, tabJ1, noEl, fun _ => .unroll 0⟩
theorem XJ1_ok : XJ1.Ok := ⟨env_ok, env_sym, env_gl, tabJ1_ok⟩
def jIn1 (K : KV) (c : Int) : Prop := sxFn XJ1 3 Proofs.Tryz.f49 [.int .u8 c] K
end
end Go.T9
set_option maxRecDepth 1000000
set_option linter.unusedVariables false
set_option linter.unusedSimpArgs false
namespace Go.T9
open Go Go.AM
noncomputable section
theorem jIn1_nf (K : KV) (c : Int) : jIn1 K c = (Sp (lB c) (K (Value.bool Bool.true) (AH.mk T.leaf (0 : Nat))) (Sp (decide ((48 : Int) ≤ c)) (Sp (decide (c ≤ (57 : Int))) (K (Value.bool Bool.true) (AH.mk T.leaf (0 : Nat))) (Sp (decide (c = (95 : Int))) (K (Value.bool Bool.true) (AH.mk T.leaf (0 : Nat))) (K (Value.bool (decide (c = (45 : Int)))) (AH.mk T.leaf (0 : Nat))))) (Sp (decide (c = (95 : Int))) (K (Value.bool Bool.true) (AH.mk T.leaf (0 : Nat))) (K (Value.bool (decide (c = (45 : Int)))) (AH.mk T.leaf (0 : Nat)))))) := by kernel_rfl
theorem in_walk (c : Int) : Walk env Proofs.Tryz.f49 [.int .u8 c] (.bool (wB c)) := by
  refine sxFn_frz XJ1_ok (d := 3) ((jIn1_nf _ c).mpr ?_)
  unfold wB dB
  cases lB c <;> cases decide (48 ≤ c) <;> cases decide (c ≤ 57) <;> cases decide (c = 95) <;> cases decide (c = 45) <;> exact Frz.same (HFb _)
def wbX : List Value → Option Value
  | [.int .u8 c] => some (.bool (wB c))
  | _ => none
theorem in_con : Con env 49 (pureX wbX) := con_pure env_ok env_gl (fn := Proofs.Tryz.f49) rfl fun args v h => by
  unfold wbX at h
  split at h
  · simp only [Option.some.injEq] at h
    subst h
    exact ⟨HF.cons (.scal rfl) HF.nil, in_walk _⟩
  · cases h
def tabJ2 : Tab := [(50, pureR (fun _ => none) lbX), (49, pureR (fun _ => none) wbX)]
theorem tabJ2_ok : TabOk env tabJ2 := .cons (con_tab lt_con) (.cons (con_tab in_con) .nil)
def XJ : SX := ⟨env, tabJ2, noEl, fun _ => .auto [] [0, 5, 6]⟩
theorem XJ_ok : XJ.Ok := ⟨env_ok, env_sym, env_gl, tabJ2_ok⟩
def frNm (s : ByteArray) (i : Nat) : T Value := (.node (.node .leaf none (.node .leaf (some (.int .i64 s.size)) .leaf)) (some (.string s)) (.node .leaf none (.node .leaf (some (.int .i64 i)) .leaf)))
def jNm (Q : Value → Prop) (QA : KV) (s : ByteArray) : Prop := sxFn XJ 1 Proofs.Tryz.f25 [.string s] (leafK Q QA)
def jNm1 (Q : Value → Prop) (QA : KV) (again : KF) (s : ByteArray) (i : Nat) : Prop := sxStepA XJ 1 Proofs.Tryz.f25 [1, 0, 1, 0] (leafK Q QA) [] [0, 5, 6] again (frNm s i) ⟨.leaf, 0⟩
def nameB (s : ByteArray) : Bool := s.data.toList.all (fun b => wB b.toNat) && (decide (1 ≤ s.size) && decide (s.size ≤ 50) && lB (byteAt s 0))
end
end Go.T9
set_option maxRecDepth 1000000
set_option linter.unusedVariables false
set_option linter.unusedSimpArgs false
namespace Go.T9
open Go Go.AM
noncomputable section
theorem jNm_nf (Q : Go.Value → Prop) (QA : KV) (s : ByteArray) : jNm Q QA s = (LAt XJ (1 : Nat) (Go.Func.ntmps Go.Proofs.Tryz.f25) (bodyOf Go.Proofs.Tryz.f25) [(1 : Nat), (0 : Nat), (1 : Nat), (0 : Nat)] (finK (SX.E XJ) (Array.toList (Go.Func.results Go.Proofs.Tryz.f25)) (leafK Q QA)) (T.node (T.node T.leaf Option.none (T.node T.leaf (Option.some (Value.int IntKind.i64 (↑(ByteArray.size s) : Int))) T.leaf)) (Option.some (Value.string s)) (T.node T.leaf Option.none (T.node T.leaf (Option.some (Value.int IntKind.i64 (0 : Int))) T.leaf))) (AH.mk T.leaf (0 : Nat))) := by kernel_rfl
theorem jNm1_nf (Q : Go.Value → Prop) (QA : KV) (again : KF) (s : ByteArray) (i : Nat) : jNm1 Q QA again s i = (Sp (decide ((↑i : Int) < (↑(ByteArray.size s) : Int))) (((0 : Int) ≤ (↑i : Int) ∧ (↑i : Int) < (↑(ByteArray.size s) : Int)) ∧ Sp (!wB (byteAt s (↑i : Int))) (Q (Value.bool Bool.false)) (again (T.node (T.node T.leaf Option.none (T.node T.leaf (Option.some (Value.int IntKind.i64 (↑(ByteArray.size s) : Int))) T.leaf)) (Option.some (Value.string s)) (T.node T.leaf Option.none (T.node T.leaf (Option.some (Value.int IntKind.i64 (IntKind.wrap IntKind.i64 ((↑i : Int) + (1 : Int))))) T.leaf))) (AH.mk T.leaf (0 : Nat)))) (Sp (!eqL (Array.toList (ByteArray.data s)) (Array.toList (ByteArray.data (ByteArray.mk #[])))) (Sp (decide ((↑(ByteArray.size s) : Int) ≤ (50 : Int))) (((0 : Int) ≤ (0 : Int) ∧ (0 : Int) < (↑(ByteArray.size s) : Int)) ∧ Q (Value.bool (lB (byteAt s (0 : Int))))) (Q (Value.bool Bool.false))) (Q (Value.bool Bool.false)))) := by kernel_rfl
theorem byteAt_in {s : ByteArray} {i : Nat} (h : i < s.data.toList.length) : byteAt s (i : Int) = (s.data.toList[i].toNat : Int) := by
  simp only [byteAt, Int.toNat_natCast, nth_eq, List.getElem?_eq_getElem h]
theorem nm_loop (Q : Value → Prop) (QA : KV) (s : ByteArray) (hs : s.size < 9223372036854775808) (hQ : Q (.bool (nameB s))) :
    LAt XJ 1 (Func.ntmps Proofs.Tryz.f25) (bodyOf Proofs.Tryz.f25) [1, 0, 1, 0] (finK XJ.E (Proofs.Tryz.f25.results).toList (leafK Q QA)) (frNm s 0) ⟨.leaf, 0⟩ := by
  have hsz : s.data.toList.length = s.size := by simp
  refine LAt.stepA XJ_ok [] [0, 5, 6] (by kernel_rfl) (fun k F A => ∃ i : Nat, F = frNm s i ∧ A = ⟨.leaf, 0⟩ ∧ i + k = s.size ∧ s.data.toList.all (fun b => wB b.toNat) = (s.data.toList.drop i).all (fun b => wB b.toNat)) ?_ (k := s.size) ⟨0, rfl, rfl, by simp, by simp⟩
  rintro k F A ⟨i, rfl, rfl, hk, hall⟩
  refine (jNm1_nf _ _ _ s i).mpr ?_
  refine Sp.intro (fun c => ?_) (fun c => ?_)
  · have hlt : i < s.size := by simpa using c
    have hl : i < s.data.toList.length := by omega
    have hw : IntKind.i64.wrap ((i : Int) + 1) = ((i + 1 : Nat) : Int) := by rw [i64_in (by omega) (by omega)]; rfl
    rw [List.drop_eq_getElem_cons hl, List.all_cons] at hall
    simp only [byteAt_in hl, hw]
    refine ⟨by omega, Sp.intro (fun h => ?_) (fun h => ⟨k - 1, by omega, i + 1, rfl, by first | trivial | rfl, by omega, ?_⟩)⟩
    · have h0 : wB (s.data.toList[i].toNat : Int) = false := by simpa using h
      have : nameB s = false := by unfold nameB; rw [hall, h0]; rfl
      rw [this] at hQ; exact hQ
    · have h0 : wB (s.data.toList[i].toNat : Int) = true := by simpa using h
      rw [hall, h0]; rfl
  · have hn : s.data.toList.drop i = [] := List.drop_eq_nil_of_le (by simp at c; omega)
    rw [hn] at hall
    have hall : s.data.toList.all (fun b => wB b.toNat) = true := hall
    refine Sp.intro (fun h => Sp.intro (fun h2 => ?_) (fun h2 => ?_)) (fun h => ?_)
    · have h1 : 1 ≤ s.size := by
        rcases hp : s.data.toList with _ | ⟨x, l⟩
        · rw [hp] at h; simp [eqL] at h
        · rw [hp] at hsz; simp at hsz; omega
      have e : nameB s = lB (byteAt s 0) := by unfold nameB; rw [hall]; simp [h1, show s.size ≤ 50 by simp at h2; omega]
      rw [e] at hQ
      exact ⟨by omega, hQ⟩
    · have e : nameB s = false := by unfold nameB; simp [show ¬ s.size ≤ 50 by simp at h2; omega]
      rw [e] at hQ; exact hQ
    · have e : nameB s = false := by
        rcases hp : s.data.toList with _ | ⟨x, l⟩
        · unfold nameB; rw [hp] at hsz; simp [show s.size = 0 by simp at hsz; omega]
        · rw [hp] at h; simp [eqL] at h
      rw [e] at hQ; exact hQ
theorem nm_walk (s : ByteArray) (hs : s.size < 9223372036854775808) : Walk env Proofs.Tryz.f25 [.string s] (.bool (nameB s)) := by
  refine sxFn_plain XJ_ok (d := 1) (HFb _) ((jNm_nf _ _ s).mpr ?_)
  exact nm_loop _ _ s hs rfl
def nmX : List Value → Option Value
  | [.string s] => some (.bool (nameB s))
  | _ => none
def nmPre : List Value → Option Prop
  | [.string s] => some (s.size < 9223372036854775808)
  | _ => none
theorem nm_tab : ∀ args A p v A', pureR nmPre nmX args A = some (p, v, A') → PH p → CallAt env 25 args A v A' := walk_tab env_ok env_gl (fn := Proofs.Tryz.f25) rfl fun args v h hp => by
  unfold nmX at h
  split at h
  · simp only [Option.some.injEq] at h
    subst h
    exact ⟨HF.cons (.scal rfl) HF.nil, nm_walk _ hp⟩
  · cases h
end
end Go.T9
set_option maxRecDepth 1000000
set_option linter.unusedVariables false
set_option linter.unusedSimpArgs false
namespace Go.T9
open Go Go.AM Go.MK
noncomputable section
abbrev SB := ByteArray
def fdv (n : SB) (m : Int) (cols : List Value) (rows : List Value) : Value := .agg ⟨[.string n, .int .i64 m, dat 1 cols, dat 1 rows]⟩
def tabJ4 : Tab := [(25, pureR nmPre nmX)]
theorem tabJ4_ok : TabOk env tabJ4 := .cons nm_tab .nil
abbrev MB := List (List UInt8 × Bool)
abbrev EntsB := List (Value × Value × Nat)
def vS : Value → List UInt8
  | .string s => s.data.toList
  | _ => []
def kS (l : List UInt8) : Value := .string (mkBytes l)
def vBo : Value → Bool
  | .bool b => b
  | _ => false
def enB (m : MB) : EntsB := ents kS Value.bool m
def mgB (es : EntsB) (k : Value) : Bool := (aget (inv vS vBo es) (vS k)).getD false
def mhB (es : EntsB) (k : Value) : Bool := (aget (inv vS vBo es) (vS k)).isSome
def msB (es : EntsB) (k v : Value) : EntsB := ents kS Value.bool (aset (inv vS vBo es) (vS k) (vBo v))
def mnB (es : EntsB) (k v : Value) : Nat := (aset (inv vS vBo es) (vS k) (vBo v)).length
def rowAt (els : List Value) (i : Int) : List Value := match nth els i.toNat with | some (.func _ ⟨l⟩ _) => l | _ => []
def elF : El := { El.of (fun sz t els i => bif Nat.beq t 65 then some (dat 1 (rowAt els i)) else some (.string (strAt els i))) with ml := fun _ es k => some (.bool (mgB es k), mhB es k), mu := fun _ es _ k v => some (msB es k v, mnB es k v) }
def XF : SX := ⟨env, tabJ4, elF, fun k => bif Nat.beq k 9 then .autoN [] [] [32] [1, 3, 43, 44, 45] else bif Nat.beq k 18 then .autoN [] [] [32] [1, 61, 62, 63] else .autoN [] [] [32] [1, 61, 62, 63, 73, 74, 75]⟩
theorem XF_ok : XF.Ok := ⟨env_ok, env_sym, env_gl, tabJ4_ok⟩
def fdC (n : SB) (m : Int) (cols rows : List Value) : AObj := .cells [.string n, .int .i64 m, dat 1 cols, dat 1 rows] 32
def hF0 (n : SB) (m : Int) (cols rows : List Value) : AH := ⟨.node .leaf (some (fdC n m cols rows)) .leaf, 1⟩
def hF1 (n : SB) (m : Int) (cols rows : List Value) (es : EntsB) (c : Nat) : AH := ⟨.node (.node .leaf (some (.map es c)) .leaf) (some (fdC n m cols rows)) .leaf, 2⟩
def frF1 (cols : List Value) (i : Nat) : T Value := (.node (.node (.node .leaf (some (.map (some 1))) (.node .leaf none (.node (.node .leaf (some (dat 1 cols)) .leaf) none .leaf))) (some (.pointer (some ⟨0, 0, none⟩))) (.node .leaf none (.node .leaf none (.node (.node .leaf (some (.int .i64 i)) .leaf) none .leaf)))) none (.node (.node .leaf none (.node .leaf none (.node (.node .leaf (some (.int .i64 cols.length)) .leaf) none .leaf))) none .leaf))
def frF2 (rows : List Value) (i : Nat) : T Value := (.node (.node (.node (.node (.node (.node (.node .leaf (some (.int .i64 i)) .leaf) none .leaf) none .leaf) none .leaf) none .leaf) (some (.pointer (some ⟨0, 0, none⟩))) (.node .leaf none (.node .leaf none (.node .leaf none (.node .leaf (some (dat 1 rows)) .leaf))))) none (.node .leaf none (.node .leaf none (.node .leaf none (.node .leaf none (.node .leaf (some (.int .i64 rows.length)) .leaf))))))
def frF3 (rows : List Value) (i : Nat) (r : List Value) (j : Nat) : T Value := (.node (.node (.node (.node (.node (.node (.node .leaf (some (.int .i64 i)) .leaf) none .leaf) none .leaf) none .leaf) none (.node .leaf none (.node (.node (.node .leaf (some (.int .i64 j)) .leaf) none .leaf) none .leaf))) (some (.pointer (some ⟨0, 0, none⟩))) (.node (.node .leaf none (.node (.node (.node .leaf (some (dat 1 r)) .leaf) none .leaf) none .leaf)) none (.node .leaf none (.node .leaf none (.node .leaf (some (dat 1 rows)) .leaf))))) none (.node .leaf none (.node (.node .leaf none (.node (.node (.node .leaf (some (.int .i64 r.length)) .leaf) none .leaf) none .leaf)) none (.node .leaf none (.node .leaf none (.node .leaf (some (.int .i64 rows.length)) .leaf))))))
def jCf (K : KV) (n : SB) (m : Int) (cols rows : List Value) : Prop := sxFnZ XF 1 Proofs.Tryz.f26 [fdv n m cols rows] ⟨.leaf, 0⟩ K
def kFinF (K : KV) : KX := finK XF.E (Proofs.Tryz.f26.results).toList K
def jCf1 (K : KV) (again : KF) (n : SB) (m : Int) (cols rows : List Value) (es : EntsB) (c i : Nat) : Prop := sxStepZ XF 1 (Func.ntmps Proofs.Tryz.f26) ⟨.leaf, 0⟩ (bodyOf Proofs.Tryz.f26) [1, 1, 1, 0, 1, 0] (kFinF K) [] [] [32] [1, 3, 43, 44, 45] again (frF1 cols i) (hF1 n m cols rows es c)
def cF2 : Code := loopBody (subC [1, 1, 1, 1, 0, 1, 0] (bodyOf Proofs.Tryz.f26))
def kF2 (K : KV) (again : KF) : KX := stepZ XF 1 (Func.ntmps Proofs.Tryz.f26) ⟨.leaf, 0⟩ (bodyOf Proofs.Tryz.f26) [1, 1, 1, 1, 0, 1, 0] (kFinF K) [] [] [32] [1, 61, 62, 63] again
def jCf2 (K : KV) (again : KF) (n : SB) (m : Int) (cols rows : List Value) (i : Nat) : Prop := sxStepZ XF 1 (Func.ntmps Proofs.Tryz.f26) ⟨.leaf, 0⟩ (bodyOf Proofs.Tryz.f26) [1, 1, 1, 1, 0, 1, 0] (kFinF K) [] [] [32] [1, 61, 62, 63] again (frF2 rows i) (hF0 n m cols rows)
def jCf3 (K : KV) (again0 again : KF) (n : SB) (m : Int) (cols rows : List Value) (i : Nat) (r : List Value) (j : Nat) : Prop := sxStepZ XF 1 (Func.ntmps Proofs.Tryz.f26) ⟨.leaf, 0⟩ cF2 [1, 1, 0, 0, 1, 1, 1, 0] (kF2 K again0) [] [] [32] [1, 61, 62, 63, 73, 74, 75] again (frF3 rows i r j) (hF0 n m cols rows)
end
end Go.T9
set_option maxRecDepth 1000000
set_option linter.unusedVariables false
set_option linter.unusedSimpArgs false
set_option maxHeartbeats 4000000
namespace Go.T9
open Go Go.AM Go.MK
noncomputable section
theorem jCf_nf (K : KV) (n : SB) (m : Int) (cols : List Go.Value) (rows : List Go.Value) : jCf K n m cols rows = (Sp (!decide (m = (1 : Int))) (Sp (!decide (m = (2 : Int))) (K (Value.int IntKind.i64 (7 : Int)) (AH.mk (T.node T.leaf (Option.some (AObj.cells [Value.string n, Value.int IntKind.i64 m, Value.func (Go.Fn.yield (1 : Nat)) (Array.mk cols) (Array.mk []), Value.func (Go.Fn.yield (1 : Nat)) (Array.mk rows) (Array.mk [])] (32 : Nat))) T.leaf) (1 : Nat))) (Sp (decide ((↑(List.length cols) : Int) = (0 : Int))) (K (Value.int IntKind.i64 (13 : Int)) (AH.mk (T.node T.leaf (Option.some (AObj.cells [Value.string n, Value.int IntKind.i64 m, Value.func (Go.Fn.yield (1 : Nat)) (Array.mk cols) (Array.mk []), Value.func (Go.Fn.yield (1 : Nat)) (Array.mk rows) (Array.mk [])] (32 : Nat))) T.leaf) (1 : Nat))) (Sp (decide ((↑(List.length rows) : Int) = (0 : Int))) (K (Value.int IntKind.i64 (13 : Int)) (AH.mk (T.node T.leaf (Option.some (AObj.cells [Value.string n, Value.int IntKind.i64 m, Value.func (Go.Fn.yield (1 : Nat)) (Array.mk cols) (Array.mk []), Value.func (Go.Fn.yield (1 : Nat)) (Array.mk rows) (Array.mk [])] (32 : Nat))) T.leaf) (1 : Nat))) (Sp (decide ((20 : Int) < (↑(List.length cols) : Int))) (K (Value.int IntKind.i64 (3 : Int)) (AH.mk (T.node T.leaf (Option.some (AObj.cells [Value.string n, Value.int IntKind.i64 m, Value.func (Go.Fn.yield (1 : Nat)) (Array.mk cols) (Array.mk []), Value.func (Go.Fn.yield (1 : Nat)) (Array.mk rows) (Array.mk [])] (32 : Nat))) T.leaf) (1 : Nat))) (Sp (decide ((10000 : Int) < (↑(List.length rows) : Int))) (K (Value.int IntKind.i64 (3 : Int)) (AH.mk (T.node T.leaf (Option.some (AObj.cells [Value.string n, Value.int IntKind.i64 m, Value.func (Go.Fn.yield (1 : Nat)) (Array.mk cols) (Array.mk []), Value.func (Go.Fn.yield (1 : Nat)) (Array.mk rows) (Array.mk [])] (32 : Nat))) T.leaf) (1 : Nat))) (HF (Value.func (Go.Fn.yield (1 : Nat)) (Array.mk cols) (Array.mk [])) ∧ HF (Value.agg (Array.mk [Value.string n, Value.int IntKind.i64 m, Value.func (Go.Fn.yield (1 : Nat)) (Array.mk cols) (Array.mk []), Value.func (Go.Fn.yield (1 : Nat)) (Array.mk rows) (Array.mk [])])) ∧ HF (Value.agg (Array.mk [])) ∧ LAtZ XF (1 : Nat) (Go.Func.ntmps Go.Proofs.Tryz.f26) (AH.mk (AH.t (AH.mk T.leaf (0 : Nat))) (0 : Nat)) (bodyOf Go.Proofs.Tryz.f26) [(1 : Nat), (1 : Nat), (1 : Nat), (0 : Nat), (1 : Nat), (0 : Nat)] (finK (SX.E XF) (Array.toList (Go.Func.results Go.Proofs.Tryz.f26)) K) (T.node (T.node (T.node T.leaf (Option.some (Value.map (Option.some (1 : Nat)))) (T.node T.leaf Option.none (T.node (T.node T.leaf (Option.some (Value.func (Go.Fn.yield (1 : Nat)) (Array.mk cols) (Array.mk []))) T.leaf) Option.none T.leaf))) (Option.some (Value.pointer (Option.some (Go.Addr.mk (0 : Nat) (0 : Nat) Option.none)))) (T.node T.leaf Option.none (T.node T.leaf Option.none (T.node (T.node T.leaf (Option.some (Value.int IntKind.i64 (0 : Int))) T.leaf) Option.none T.leaf)))) Option.none (T.node (T.node T.leaf Option.none (T.node T.leaf Option.none (T.node (T.node T.leaf (Option.some (Value.int IntKind.i64 (↑(List.length cols) : Int))) T.leaf) Option.none T.leaf))) Option.none T.leaf)) (AH.mk (T.node (T.node T.leaf (Option.some (AObj.map [] (0 : Nat))) T.leaf) (Option.some (AObj.cells [Value.string n, Value.int IntKind.i64 m, Value.func (Go.Fn.yield (1 : Nat)) (Array.mk cols) (Array.mk []), Value.func (Go.Fn.yield (1 : Nat)) (Array.mk rows) (Array.mk [])] (32 : Nat))) T.leaf) (2 : Nat)))))))) (Sp (decide ((↑(List.length cols) : Int) = (0 : Int))) (K (Value.int IntKind.i64 (13 : Int)) (AH.mk (T.node T.leaf (Option.some (AObj.cells [Value.string n, Value.int IntKind.i64 m, Value.func (Go.Fn.yield (1 : Nat)) (Array.mk cols) (Array.mk []), Value.func (Go.Fn.yield (1 : Nat)) (Array.mk rows) (Array.mk [])] (32 : Nat))) T.leaf) (1 : Nat))) (Sp (decide ((↑(List.length rows) : Int) = (0 : Int))) (K (Value.int IntKind.i64 (13 : Int)) (AH.mk (T.node T.leaf (Option.some (AObj.cells [Value.string n, Value.int IntKind.i64 m, Value.func (Go.Fn.yield (1 : Nat)) (Array.mk cols) (Array.mk []), Value.func (Go.Fn.yield (1 : Nat)) (Array.mk rows) (Array.mk [])] (32 : Nat))) T.leaf) (1 : Nat))) (Sp (decide ((20 : Int) < (↑(List.length cols) : Int))) (K (Value.int IntKind.i64 (3 : Int)) (AH.mk (T.node T.leaf (Option.some (AObj.cells [Value.string n, Value.int IntKind.i64 m, Value.func (Go.Fn.yield (1 : Nat)) (Array.mk cols) (Array.mk []), Value.func (Go.Fn.yield (1 : Nat)) (Array.mk rows) (Array.mk [])] (32 : Nat))) T.leaf) (1 : Nat))) (Sp (decide ((10000 : Int) < (↑(List.length rows) : Int))) (K (Value.int IntKind.i64 (3 : Int)) (AH.mk (T.node T.leaf (Option.some (AObj.cells [Value.string n, Value.int IntKind.i64 m, Value.func (Go.Fn.yield (1 : Nat)) (Array.mk cols) (Array.mk []), Value.func (Go.Fn.yield (1 : Nat)) (Array.mk rows) (Array.mk [])] (32 : Nat))) T.leaf) (1 : Nat))) (HF (Value.func (Go.Fn.yield (1 : Nat)) (Array.mk cols) (Array.mk [])) ∧ HF (Value.agg (Array.mk [Value.string n, Value.int IntKind.i64 m, Value.func (Go.Fn.yield (1 : Nat)) (Array.mk cols) (Array.mk []), Value.func (Go.Fn.yield (1 : Nat)) (Array.mk rows) (Array.mk [])])) ∧ HF (Value.agg (Array.mk [])) ∧ LAtZ XF (1 : Nat) (Go.Func.ntmps Go.Proofs.Tryz.f26) (AH.mk (AH.t (AH.mk T.leaf (0 : Nat))) (0 : Nat)) (bodyOf Go.Proofs.Tryz.f26) [(1 : Nat), (1 : Nat), (1 : Nat), (0 : Nat), (1 : Nat), (0 : Nat)] (finK (SX.E XF) (Array.toList (Go.Func.results Go.Proofs.Tryz.f26)) K) (T.node (T.node (T.node T.leaf (Option.some (Value.map (Option.some (1 : Nat)))) (T.node T.leaf Option.none (T.node (T.node T.leaf (Option.some (Value.func (Go.Fn.yield (1 : Nat)) (Array.mk cols) (Array.mk []))) T.leaf) Option.none T.leaf))) (Option.some (Value.pointer (Option.some (Go.Addr.mk (0 : Nat) (0 : Nat) Option.none)))) (T.node T.leaf Option.none (T.node T.leaf Option.none (T.node (T.node T.leaf (Option.some (Value.int IntKind.i64 (0 : Int))) T.leaf) Option.none T.leaf)))) Option.none (T.node (T.node T.leaf Option.none (T.node T.leaf Option.none (T.node (T.node T.leaf (Option.some (Value.int IntKind.i64 (↑(List.length cols) : Int))) T.leaf) Option.none T.leaf))) Option.none T.leaf)) (AH.mk (T.node (T.node T.leaf (Option.some (AObj.map [] (0 : Nat))) T.leaf) (Option.some (AObj.cells [Value.string n, Value.int IntKind.i64 m, Value.func (Go.Fn.yield (1 : Nat)) (Array.mk cols) (Array.mk []), Value.func (Go.Fn.yield (1 : Nat)) (Array.mk rows) (Array.mk [])] (32 : Nat))) T.leaf) (2 : Nat)))))))) := by kernel_rfl
theorem jCf1_nf (K : KV) (again : KF) (n : SB) (m : Int) (cols : List Go.Value) (rows : List Go.Value) (es : EntsB) (c : Nat) (i : Nat) : jCf1 K again n m cols rows es c i = (Sp (decide ((↑i : Int) < (↑(List.length cols) : Int)))
  (((0 : Int) ≤ (↑i : Int) ∧ (↑i : Int) < (↑(List.length cols) : Int)) ∧
    nth cols (Int.toNat (↑(Int.toNat (↑i : Int)) : Int)) =
        Option.some
          (Value.string
            (match nth cols (Int.toNat (↑(Int.toNat (↑i : Int)) : Int)) with
            | Option.some (Value.string s) => s
            | x => ByteArray.empty)) ∧
      ByteArray.size (strAt cols (↑(Int.toNat (↑i : Int)) : Int)) < (9223372036854775808 : Nat) ∧
        Sp (!nameB (strAt cols (↑(Int.toNat (↑i : Int)) : Int))) (K (Value.int IntKind.i64 (8 : Int)) (AH.mk (T.node (T.node T.leaf (Option.some (AObj.map es c)) T.leaf) (Option.some (AObj.cells [Value.string n, Value.int IntKind.i64 m, Value.func (Go.Fn.yield (1 : Nat)) (Array.mk cols) (Array.mk []), Value.func (Go.Fn.yield (1 : Nat)) (Array.mk rows) (Array.mk [])] (32 : Nat))) T.leaf) (2 : Nat)))
          (lookE (SX.E XF) (47 : Nat) es
                (Value.string
                  (match nth cols (Int.toNat (↑(Int.toNat (↑i : Int)) : Int)) with
                  | Option.some (Value.string s) => s
                  | x => ByteArray.empty)) =
              Option.some
                (Value.bool
                    (mgB es
                      (Value.string
                        (match nth cols (Int.toNat (↑(Int.toNat (↑i : Int)) : Int)) with
                        | Option.some (Value.string s) => s
                        | x => ByteArray.empty))),
                  mhB es
                    (Value.string
                      (match nth cols (Int.toNat (↑(Int.toNat (↑i : Int)) : Int)) with
                      | Option.some (Value.string s) => s
                      | x => ByteArray.empty))) ∧
            Sp
              (mgB es
                (Value.string
                  (match nth cols (Int.toNat (↑(Int.toNat (↑i : Int)) : Int)) with
                  | Option.some (Value.string s) => s
                  | x => ByteArray.empty)))
              (K (Value.int IntKind.i64 (5 : Int)) (AH.mk (T.node (T.node T.leaf (Option.some (AObj.map es c)) T.leaf) (Option.some (AObj.cells [Value.string n, Value.int IntKind.i64 m, Value.func (Go.Fn.yield (1 : Nat)) (Array.mk cols) (Array.mk []), Value.func (Go.Fn.yield (1 : Nat)) (Array.mk rows) (Array.mk [])] (32 : Nat))) T.leaf) (2 : Nat)))
              (mapUpdE (SX.E XF) (47 : Nat) es c
                    (Value.string
                      (match nth cols (Int.toNat (↑(Int.toNat (↑i : Int)) : Int)) with
                      | Option.some (Value.string s) => s
                      | x => ByteArray.empty))
                    (Value.bool Bool.true) =
                  Option.some
                    (msB es
                        (Value.string
                          (match nth cols (Int.toNat (↑(Int.toNat (↑i : Int)) : Int)) with
                          | Option.some (Value.string s) => s
                          | x => ByteArray.empty))
                        (Value.bool Bool.true),
                      mnB es
                        (Value.string
                          (match nth cols (Int.toNat (↑(Int.toNat (↑i : Int)) : Int)) with
                          | Option.some (Value.string s) => s
                          | x => ByteArray.empty))
                        (Value.bool Bool.true)) ∧
                HF (Value.func (Go.Fn.yield (1 : Nat)) (Array.mk cols) (Array.mk [])) ∧
                  HF (Value.agg (Array.mk [Value.string n, Value.int IntKind.i64 m, Value.func (Go.Fn.yield (1 : Nat)) (Array.mk cols) (Array.mk []), Value.func (Go.Fn.yield (1 : Nat)) (Array.mk rows) (Array.mk [])])) ∧
                    HF
                        (Value.agg
                          (Array.mk
                            (List.map (fun (x : Go.Value × Go.Value × Nat) => Prod.fst (Prod.snd x))
                              (msB es
                                (Value.string
                                  (match nth cols (Int.toNat (↑(Int.toNat (↑i : Int)) : Int)) with
                                  | Option.some (Value.string s) => s
                                  | x => ByteArray.empty))
                                (Value.bool Bool.true))))) ∧
                      again (T.node (T.node (T.node T.leaf (Option.some (Value.map (Option.some (1 : Nat)))) (T.node T.leaf Option.none (T.node (T.node T.leaf (Option.some (Value.func (Go.Fn.yield (1 : Nat)) (Array.mk cols) (Array.mk []))) T.leaf) Option.none T.leaf))) (Option.some (Value.pointer (Option.some (Go.Addr.mk (0 : Nat) (0 : Nat) Option.none)))) (T.node T.leaf Option.none (T.node T.leaf Option.none (T.node (T.node T.leaf (Option.some (Value.int IntKind.i64 (IntKind.wrap IntKind.i64 ((↑i : Int) + (1 : Int))))) T.leaf) Option.none T.leaf)))) Option.none (T.node (T.node T.leaf Option.none (T.node T.leaf Option.none (T.node (T.node T.leaf (Option.some (Value.int IntKind.i64 (↑(List.length cols) : Int))) T.leaf) Option.none T.leaf))) Option.none T.leaf))
                        (AH.mk
                          (T.node
                            (T.node T.leaf
                              (Option.some
                                (AObj.map
                                  (msB es
                                    (Value.string
                                      (match nth cols (Int.toNat (↑(Int.toNat (↑i : Int)) : Int)) with
                                      | Option.some (Value.string s) => s
                                      | x => ByteArray.empty))
                                    (Value.bool Bool.true))
                                  (mnB es
                                    (Value.string
                                      (match nth cols (Int.toNat (↑(Int.toNat (↑i : Int)) : Int)) with
                                      | Option.some (Value.string s) => s
                                      | x => ByteArray.empty))
                                    (Value.bool Bool.true))))
                              T.leaf)
                            (Option.some (AObj.cells [Value.string n, Value.int IntKind.i64 m, Value.func (Go.Fn.yield (1 : Nat)) (Array.mk cols) (Array.mk []), Value.func (Go.Fn.yield (1 : Nat)) (Array.mk rows) (Array.mk [])] (32 : Nat))) T.leaf)
                          (2 : Nat)))))
  (HF (Value.func (Go.Fn.yield (1 : Nat)) (Array.mk rows) (Array.mk [])) ∧ HF (Value.agg (Array.mk [Value.string n, Value.int IntKind.i64 m, Value.func (Go.Fn.yield (1 : Nat)) (Array.mk cols) (Array.mk []), Value.func (Go.Fn.yield (1 : Nat)) (Array.mk rows) (Array.mk [])])) ∧ LAtZ XF (1 : Nat) (Go.Func.ntmps Go.Proofs.Tryz.f26) (AH.mk T.leaf (0 : Nat)) (bodyOf Go.Proofs.Tryz.f26) [(1 : Nat), (1 : Nat), (1 : Nat), (1 : Nat), (0 : Nat), (1 : Nat), (0 : Nat)] (kFinF K) (T.node (T.node (T.node (T.node (T.node (T.node (T.node T.leaf (Option.some (Value.int IntKind.i64 (0 : Int))) T.leaf) Option.none T.leaf) Option.none T.leaf) Option.none T.leaf) Option.none T.leaf) (Option.some (Value.pointer (Option.some (Go.Addr.mk (0 : Nat) (0 : Nat) Option.none)))) (T.node T.leaf Option.none (T.node T.leaf Option.none (T.node T.leaf Option.none (T.node T.leaf (Option.some (Value.func (Go.Fn.yield (1 : Nat)) (Array.mk rows) (Array.mk []))) T.leaf))))) Option.none (T.node T.leaf Option.none (T.node T.leaf Option.none (T.node T.leaf Option.none (T.node T.leaf Option.none (T.node T.leaf (Option.some (Value.int IntKind.i64 (↑(List.length rows) : Int))) T.leaf)))))) (AH.mk (T.node T.leaf (Option.some (AObj.cells [Value.string n, Value.int IntKind.i64 m, Value.func (Go.Fn.yield (1 : Nat)) (Array.mk cols) (Array.mk []), Value.func (Go.Fn.yield (1 : Nat)) (Array.mk rows) (Array.mk [])] (32 : Nat))) T.leaf) (1 : Nat)))) := by kernel_rfl
theorem jCf2_nf (K : KV) (again : KF) (n : SB) (m : Int) (cols : List Go.Value) (rows : List Go.Value) (i : Nat) : jCf2 K again n m cols rows i = (Sp (decide ((↑i : Int) < (↑(List.length rows) : Int))) (((0 : Int) ≤ (↑i : Int) ∧ (↑i : Int) < (↑(List.length rows) : Int)) ∧ nth rows (Int.toNat (↑(Int.toNat (↑i : Int)) : Int)) = Option.some (Value.func (Go.Fn.yield (1 : Nat)) (Array.mk (rowAt rows (↑(Int.toNat (↑i : Int)) : Int))) (Array.mk [])) ∧ Sp (!decide ((↑(List.length (rowAt rows (↑(Int.toNat (↑i : Int)) : Int))) : Int) = (↑(List.length cols) : Int))) (K (Value.int IntKind.i64 (2 : Int)) (AH.mk (T.node T.leaf (Option.some (AObj.cells [Value.string n, Value.int IntKind.i64 m, Value.func (Go.Fn.yield (1 : Nat)) (Array.mk cols) (Array.mk []), Value.func (Go.Fn.yield (1 : Nat)) (Array.mk rows) (Array.mk [])] (32 : Nat))) T.leaf) (1 : Nat))) (HF (Value.func (Go.Fn.yield (1 : Nat)) (Array.mk rows) (Array.mk [])) ∧ HF (Value.func (Go.Fn.yield (1 : Nat)) (Array.mk (rowAt rows (↑(Int.toNat (↑i : Int)) : Int))) (Array.mk [])) ∧ HF (Value.agg (Array.mk [Value.string n, Value.int IntKind.i64 m, Value.func (Go.Fn.yield (1 : Nat)) (Array.mk cols) (Array.mk []), Value.func (Go.Fn.yield (1 : Nat)) (Array.mk rows) (Array.mk [])])) ∧ LAtZ XF (1 : Nat) (Go.Func.ntmps Go.Proofs.Tryz.f26) (AH.mk T.leaf (0 : Nat)) (loopBody (subC [(1 : Nat), (1 : Nat), (1 : Nat), (1 : Nat), (0 : Nat), (1 : Nat), (0 : Nat)] (bodyOf Go.Proofs.Tryz.f26))) [(1 : Nat), (1 : Nat), (0 : Nat), (0 : Nat), (1 : Nat), (1 : Nat), (1 : Nat), (0 : Nat)] (stepZ XF (1 : Nat) (Go.Func.ntmps Go.Proofs.Tryz.f26) (AH.mk T.leaf (0 : Nat)) (bodyOf Go.Proofs.Tryz.f26) [(1 : Nat), (1 : Nat), (1 : Nat), (1 : Nat), (0 : Nat), (1 : Nat), (0 : Nat)] (kFinF K) [] [] [(32 : Nat)] [(1 : Nat), (61 : Nat), (62 : Nat), (63 : Nat)] again) (T.node (T.node (T.node (T.node (T.node (T.node (T.node T.leaf (Option.some (Value.int IntKind.i64 (↑i : Int))) T.leaf) Option.none T.leaf) Option.none T.leaf) Option.none T.leaf) Option.none (T.node T.leaf Option.none (T.node (T.node (T.node T.leaf (Option.some (Value.int IntKind.i64 (0 : Int))) T.leaf) Option.none T.leaf) Option.none T.leaf))) (Option.some (Value.pointer (Option.some (Go.Addr.mk (0 : Nat) (0 : Nat) Option.none)))) (T.node (T.node T.leaf Option.none (T.node (T.node (T.node T.leaf (Option.some (Value.func (Go.Fn.yield (1 : Nat)) (Array.mk (rowAt rows (↑(Int.toNat (↑i : Int)) : Int))) (Array.mk []))) T.leaf) Option.none T.leaf) Option.none T.leaf)) Option.none (T.node T.leaf Option.none (T.node T.leaf Option.none (T.node T.leaf (Option.some (Value.func (Go.Fn.yield (1 : Nat)) (Array.mk rows) (Array.mk []))) T.leaf))))) Option.none (T.node T.leaf Option.none (T.node (T.node T.leaf Option.none (T.node (T.node (T.node T.leaf (Option.some (Value.int IntKind.i64 (↑(List.length (rowAt rows (↑(Int.toNat (↑i : Int)) : Int))) : Int))) T.leaf) Option.none T.leaf) Option.none T.leaf)) Option.none (T.node T.leaf Option.none (T.node T.leaf Option.none (T.node T.leaf (Option.some (Value.int IntKind.i64 (↑(List.length rows) : Int))) T.leaf)))))) (AH.mk (T.node T.leaf (Option.some (AObj.cells [Value.string n, Value.int IntKind.i64 m, Value.func (Go.Fn.yield (1 : Nat)) (Array.mk cols) (Array.mk []), Value.func (Go.Fn.yield (1 : Nat)) (Array.mk rows) (Array.mk [])] (32 : Nat))) T.leaf) (1 : Nat)))) (K (Value.int IntKind.i64 (0 : Int)) (AH.mk (T.node T.leaf (Option.some (AObj.cells [Value.string n, Value.int IntKind.i64 m, Value.func (Go.Fn.yield (1 : Nat)) (Array.mk cols) (Array.mk []), Value.func (Go.Fn.yield (1 : Nat)) (Array.mk rows) (Array.mk [])] (32 : Nat))) T.leaf) (1 : Nat)))) := by kernel_rfl
theorem jCf3_nf (K : KV) (again0 : KF) (again : KF) (n : SB) (m : Int) (cols : List Go.Value) (rows : List Go.Value) (i : Nat) (r : List Go.Value) (j : Nat) : jCf3 K again0 again n m cols rows i r j = (Sp (decide ((↑j : Int) < (↑(List.length r) : Int)))
  (((0 : Int) ≤ (↑j : Int) ∧ (↑j : Int) < (↑(List.length r) : Int)) ∧
    nth r (Int.toNat (↑(Int.toNat (↑j : Int)) : Int)) =
        Option.some
          (Value.string
            (match nth r (Int.toNat (↑(Int.toNat (↑j : Int)) : Int)) with
            | Option.some (Value.string s) => s
            | x => ByteArray.empty)) ∧
      Sp (decide ((1000000 : Int) < (↑(ByteArray.size (strAt r (↑(Int.toNat (↑j : Int)) : Int))) : Int))) (K (Value.int IntKind.i64 (3 : Int)) (AH.mk (T.node T.leaf (Option.some (AObj.cells [Value.string n, Value.int IntKind.i64 m, Value.func (Go.Fn.yield (1 : Nat)) (Array.mk cols) (Array.mk []), Value.func (Go.Fn.yield (1 : Nat)) (Array.mk rows) (Array.mk [])] (32 : Nat))) T.leaf) (1 : Nat))) (HF (Value.func (Go.Fn.yield (1 : Nat)) (Array.mk rows) (Array.mk [])) ∧ HF (Value.func (Go.Fn.yield (1 : Nat)) (Array.mk r) (Array.mk [])) ∧ HF (Value.agg (Array.mk [Value.string n, Value.int IntKind.i64 m, Value.func (Go.Fn.yield (1 : Nat)) (Array.mk cols) (Array.mk []), Value.func (Go.Fn.yield (1 : Nat)) (Array.mk rows) (Array.mk [])])) ∧ again (T.node (T.node (T.node (T.node (T.node (T.node (T.node T.leaf (Option.some (Value.int IntKind.i64 (↑i : Int))) T.leaf) Option.none T.leaf) Option.none T.leaf) Option.none T.leaf) Option.none (T.node T.leaf Option.none (T.node (T.node (T.node T.leaf (Option.some (Value.int IntKind.i64 (IntKind.wrap IntKind.i64 ((↑j : Int) + (1 : Int))))) T.leaf) Option.none T.leaf) Option.none T.leaf))) (Option.some (Value.pointer (Option.some (Go.Addr.mk (0 : Nat) (0 : Nat) Option.none)))) (T.node (T.node T.leaf Option.none (T.node (T.node (T.node T.leaf (Option.some (Value.func (Go.Fn.yield (1 : Nat)) (Array.mk r) (Array.mk []))) T.leaf) Option.none T.leaf) Option.none T.leaf)) Option.none (T.node T.leaf Option.none (T.node T.leaf Option.none (T.node T.leaf (Option.some (Value.func (Go.Fn.yield (1 : Nat)) (Array.mk rows) (Array.mk []))) T.leaf))))) Option.none (T.node T.leaf Option.none (T.node (T.node T.leaf Option.none (T.node (T.node (T.node T.leaf (Option.some (Value.int IntKind.i64 (↑(List.length r) : Int))) T.leaf) Option.none T.leaf) Option.none T.leaf)) Option.none (T.node T.leaf Option.none (T.node T.leaf Option.none (T.node T.leaf (Option.some (Value.int IntKind.i64 (↑(List.length rows) : Int))) T.leaf)))))) (AH.mk (T.node T.leaf (Option.some (AObj.cells [Value.string n, Value.int IntKind.i64 m, Value.func (Go.Fn.yield (1 : Nat)) (Array.mk cols) (Array.mk []), Value.func (Go.Fn.yield (1 : Nat)) (Array.mk rows) (Array.mk [])] (32 : Nat))) T.leaf) (1 : Nat))))
  (HF (Value.func (Go.Fn.yield (1 : Nat)) (Array.mk rows) (Array.mk [])) ∧ HF (Value.agg (Array.mk [Value.string n, Value.int IntKind.i64 m, Value.func (Go.Fn.yield (1 : Nat)) (Array.mk cols) (Array.mk []), Value.func (Go.Fn.yield (1 : Nat)) (Array.mk rows) (Array.mk [])])) ∧ again0 (T.node (T.node (T.node (T.node (T.node (T.node (T.node T.leaf (Option.some (Value.int IntKind.i64 (IntKind.wrap IntKind.i64 ((↑i : Int) + (1 : Int))))) T.leaf) Option.none T.leaf) Option.none T.leaf) Option.none T.leaf) Option.none T.leaf) (Option.some (Value.pointer (Option.some (Go.Addr.mk (0 : Nat) (0 : Nat) Option.none)))) (T.node T.leaf Option.none (T.node T.leaf Option.none (T.node T.leaf Option.none (T.node T.leaf (Option.some (Value.func (Go.Fn.yield (1 : Nat)) (Array.mk rows) (Array.mk []))) T.leaf))))) Option.none (T.node T.leaf Option.none (T.node T.leaf Option.none (T.node T.leaf Option.none (T.node T.leaf Option.none (T.node T.leaf (Option.some (Value.int IntKind.i64 (↑(List.length rows) : Int))) T.leaf)))))) (AH.mk (T.node T.leaf (Option.some (AObj.cells [Value.string n, Value.int IntKind.i64 m, Value.func (Go.Fn.yield (1 : Nat)) (Array.mk cols) (Array.mk []), Value.func (Go.Fn.yield (1 : Nat)) (Array.mk rows) (Array.mk [])] (32 : Nat))) T.leaf) (1 : Nat)))) := by kernel_rfl
def sv (l : List SB) : List Value := l.map Value.string
def rv (l : List (List SB)) : List Value := l.map fun r => dat 1 (sv r)
def txF : List SB → Int
  | [] => 0
  | s :: l => bif decide ((1000000 : Int) < s.size) then 3 else txF l
def rowF (n : Nat) : List (List SB) → Int
  | [] => 0
  | r :: l => bif decide (r.length = n) then (bif decide (txF r = 0) then rowF n l else 3) else 2
def colF : List (List UInt8) → List SB → Int
  | _, [] => 0
  | seen, c :: l => bif nameB c then (bif decide (c.data.toList ∈ seen) then 5 else colF (seen ++ [c.data.toList]) l) else 8
theorem HF_ss (r : List SB) : HF (dat 1 (sv r)) := .dat fun x hx => by obtain ⟨s, _, rfl⟩ := List.mem_map.1 hx; exact .scal rfl
theorem HF_rr (l : List (List SB)) : HF (dat 1 (rv l)) := .dat fun x hx => by obtain ⟨s, _, rfl⟩ := List.mem_map.1 hx; exact HF_ss s
theorem HF_fd (n : SB) (m : Int) (cs : List SB) (rs : List (List SB)) : HF (.agg ⟨[.string n, .int .i64 m, dat 1 (sv cs), dat 1 (rv rs)]⟩) := .agg (HF.cons (.scal rfl) (HF.cons (.scal rfl) (HF.cons (HF_ss _) (HF.cons (HF_rr _) HF.nil))))
theorem sv_nth {r : List SB} {j : Nat} (h : j < r.length) : nth (sv r) j = some (.string r[j]) := by
  rw [nth_eq]; simp [sv, List.getElem?_eq_getElem h]
theorem st_at {r : List SB} {j : Nat} (h : j < r.length) : strAt (sv r) (j : Int) = r[j] := by
  simp only [strAt, Int.toNat_natCast, sv_nth h]
theorem rv_nth {l : List (List SB)} {j : Nat} (h : j < l.length) : nth (rv l) j = some (dat 1 (sv l[j])) := by
  rw [nth_eq]; simp [rv, List.getElem?_eq_getElem h]
theorem rw_at {l : List (List SB)} {j : Nat} (h : j < l.length) : rowAt (rv l) (j : Int) = sv l[j] := by
  simp only [rowAt, Int.toNat_natCast, rv_nth h]
  rfl
theorem sv_len (r : List SB) : (sv r).length = r.length := by simp [sv]
theorem rv_len (l : List (List SB)) : (rv l).length = l.length := by simp [rv]
theorem F3_loop {K : KV} {again0 : KF} (n : SB) (m : Int) (cs : List SB) (rs : List (List SB)) (i : Nat) (r : List SB) (hr : r.length ≤ 1000000) (hi : i ≤ 1000000)
    (hK : txF r ≠ 0 → K (.int .i64 3) (hF0 n m (sv cs) (rv rs))) (h : txF r = 0 → again0 (frF2 (rv rs) (i + 1)) (hF0 n m (sv cs) (rv rs))) :
    LAtZ XF 1 (Func.ntmps Proofs.Tryz.f26) ⟨.leaf, 0⟩ cF2 [1, 1, 0, 0, 1, 1, 1, 0] (kF2 K again0) (frF3 (rv rs) i (sv r) 0) (hF0 n m (sv cs) (rv rs)) := by
  refine LAtZ.step XF_ok rfl [] [] [32] [1, 61, 62, 63, 73, 74, 75] (by kernel_rfl) (fun k F A => ∃ j : Nat, F = frF3 (rv rs) i (sv r) j ∧ A = hF0 n m (sv cs) (rv rs) ∧ j + k = r.length ∧ txF r = txF (r.drop j)) ?_ (k := r.length) ⟨0, rfl, rfl, by simp, by simp⟩
  rintro k F A ⟨j, rfl, rfl, hk, hx⟩
  refine (jCf3_nf K again0 _ n m _ _ i _ j).mpr ?_
  refine Sp.intro (fun c => ?_) (fun c => ?_)
  · have hlt : j < r.length := by simpa [sv_len] using c
    have hw : IntKind.i64.wrap ((j : Int) + 1) = ((j + 1 : Nat) : Int) := by rw [i64_in (by omega) (by omega)]; rfl
    rw [List.drop_eq_getElem_cons hlt] at hx
    simp only [Int.toNat_natCast, st_at hlt, hw]
    refine ⟨by rw [sv_len]; omega, by rw [sv_nth hlt], Sp.intro (fun c2 => hK ?_) (fun c2 => ⟨HF_rr rs, HF_ss r, HF_fd n m cs rs, k - 1, by omega, j + 1, rfl, by first | trivial | rfl, by omega, ?_⟩)⟩
    · rw [hx]; simp only [txF, c2, cond_true]; decide
    · rw [hx]; simp only [txF, c2, cond_false]
  · have hn : r.drop j = [] := List.drop_eq_nil_of_le (by simp [sv_len] at c; omega)
    rw [hn] at hx
    have hw : IntKind.i64.wrap ((i : Int) + 1) = ((i + 1 : Nat) : Int) := by rw [i64_in (by omega) (by omega)]; rfl
    simp only [hw]
    exact ⟨HF_rr rs, HF_fd n m cs rs, h hx⟩
theorem F2_loop {K : KV} (n : SB) (m : Int) (cs : List SB) (rs : List (List SB)) (hc : cs.length ≤ 1000000) (hr : rs.length ≤ 1000000)
    (hK : K (.int .i64 (rowF cs.length rs)) (hF0 n m (sv cs) (rv rs))) :
    LAtZ XF 1 (Func.ntmps Proofs.Tryz.f26) ⟨.leaf, 0⟩ (bodyOf Proofs.Tryz.f26) [1, 1, 1, 1, 0, 1, 0] (kFinF K) (frF2 (rv rs) 0) (hF0 n m (sv cs) (rv rs)) := by
  refine LAtZ.step XF_ok rfl [] [] [32] [1, 61, 62, 63] (by kernel_rfl) (fun k F A => ∃ i : Nat, F = frF2 (rv rs) i ∧ A = hF0 n m (sv cs) (rv rs) ∧ i + k = rs.length ∧ rowF cs.length rs = rowF cs.length (rs.drop i)) ?_ (k := rs.length) ⟨0, rfl, rfl, by simp, by simp⟩
  rintro k F A ⟨i, rfl, rfl, hk, hx⟩
  refine (jCf2_nf K _ n m _ _ i).mpr ?_
  refine Sp.intro (fun c => ?_) (fun c => ?_)
  · have hlt : i < rs.length := by simpa [rv_len] using c
    rw [List.drop_eq_getElem_cons hlt] at hx
    simp only [Int.toNat_natCast, rw_at hlt]
    refine ⟨by rw [rv_len]; omega, by rw [rv_nth hlt]; rfl, Sp.intro (fun c2 => ?_) (fun c2 => ?_)⟩
    · have e : rowF cs.length rs = 2 := by
        rw [hx]; unfold rowF
        have : decide (rs[i].length = cs.length) = false := by simp [sv_len] at c2; simp; omega
        rw [this]; rfl
      rw [e] at hK; exact hK
    · have e : decide (rs[i].length = cs.length) = true := by simp [sv_len] at c2; simp; omega
      have el : rs[i].length = cs.length := of_decide_eq_true e
      refine ⟨HF_rr rs, HF_ss _, HF_fd n m cs rs, F3_loop n m cs rs i rs[i] (by omega) (by omega) (fun h => ?_) (fun h => ?_)⟩
      · have e2 : rowF cs.length rs = 3 := by
          rw [hx]; unfold rowF; rw [e, show decide (txF rs[i] = 0) = false by simp [h]]; rfl
        rw [e2] at hK; exact hK
      · refine ⟨k - 1, by omega, i + 1, rfl, rfl, by omega, ?_⟩
        rw [hx]
        show (bif decide (rs[i].length = cs.length) then (bif decide (txF rs[i] = 0) then rowF cs.length (rs.drop (i + 1)) else 3) else 2) = _
        rw [e, show decide (txF rs[i] = 0) = true by simp [h]]; rfl
  · have hn : rs.drop i = [] := List.drop_eq_nil_of_le (by simp [rv_len] at c; omega)
    rw [hn] at hx
    rw [hx] at hK
    exact hK
end
end Go.T9
set_option maxRecDepth 1000000
set_option linter.unusedVariables false
set_option linter.unusedSimpArgs false
set_option maxHeartbeats 4000000
namespace Go.T9
open Go Go.AM Go.MK
noncomputable section
theorem eqL_dec (a b : List UInt8) : eqL a b = decide (a = b) := by
  cases h : eqL a b with
  | true => simp [(eqL_iff a b).1 h]
  | false =>
    by_cases e : a = b
    · rw [(eqL_iff a b).2 e] at h; cases h
    · simp [e]
theorem koS : KeyOk env 47 9 4 kS (.bool false) := ⟨by kernel_rfl, fun _ => rfl, fun emp k => by cases emp <;> kernel_rfl, ⟨.string, by kernel_rfl, .inl fun a b => by
  show some (eqL a b) = _
  rw [eqL_dec]⟩, fun k => by simp [kS, Instr.sameBits, bytes_beq, (eqL_iff _ _).2 rfl], ⟨_, rfl, rfl, rfl⟩⟩
theorem invB (m : MB) : inv vS vBo (enB m) = m := inv_ents (fun _ => rfl) (fun _ => rfl) m
theorem mgB_e (m : MB) (s : SB) : mgB (enB m) (.string s) = (aget m s.data.toList).getD false := by unfold mgB; rw [invB]; rfl
theorem msB_e (m : MB) (s : SB) : msB (enB m) (.string s) (.bool true) = enB (aset m s.data.toList true) := by unfold msB; rw [invB]; rfl
theorem mnB_e (m : MB) (s : SB) : mnB (enB m) (.string s) (.bool true) = (aset m s.data.toList true).length := by unfold mnB; rw [invB]; rfl
theorem lookB (m : MB) (s : SB) : lookE env 47 (enB m) (.string s) = some (.bool ((aget m s.data.toList).getD false), mhB (enB m) (.string s)) := by
  refine (look_ents koS Value.bool s.data.toList m).trans ?_
  unfold mhB
  rw [invB]
  show _ = some (Value.bool ((aget m s.data.toList).getD false), (aget m s.data.toList).isSome)
  cases aget m s.data.toList <;> rfl
theorem updB (m : MB) (s : SB) : mapUpdE env 47 (enB m) m.length (.string s) (.bool true) = some (enB (aset m s.data.toList true), (aset m s.data.toList true).length) := upd_ents koS Value.bool s.data.toList true m
theorem HF_enB (m : MB) : HF (.agg ⟨(enB m).map fun x => x.2.1⟩) := HF_ents (fun v => .scal rfl) m
end
end Go.T9
set_option maxRecDepth 1000000
set_option linter.unusedVariables false
set_option linter.unusedSimpArgs false
set_option maxHeartbeats 4000000
namespace Go.T9
open Go Go.AM Go.MK
noncomputable section
def seenF (cs : List SB) (i : Nat) : List (List UInt8) := (cs.take i).map fun s => s.data.toList
theorem seen_succ {cs : List SB} {i : Nat} (h : i < cs.length) : seenF cs (i + 1) = seenF cs i ++ [cs[i].data.toList] := by
  unfold seenF; rw [List.take_succ_eq_append_getElem h, List.map_append]; rfl
theorem colF_step {cs : List SB} {i : Nat} (h : i < cs.length) : colF (seenF cs i) (cs.drop i) = bif nameB cs[i] then (bif decide (cs[i].data.toList ∈ seenF cs i) then 5 else colF (seenF cs (i + 1)) (cs.drop (i + 1))) else 8 := by
  rw [List.drop_eq_getElem_cons h, seen_succ h]; rfl
theorem F1_loop {K : KV} (n : SB) (m : Int) (cs : List SB) (rs : List (List SB)) (hc : cs.length ≤ 1000000) (hr : rs.length ≤ 1000000) (hb : ∀ s ∈ cs, s.size < 9223372036854775808)
    (hK0 : colF [] cs ≠ 0 → ∀ A, K (.int .i64 (colF [] cs)) A) (hK1 : colF [] cs = 0 → K (.int .i64 (rowF cs.length rs)) (hF0 n m (sv cs) (rv rs))) :
    LAtZ XF 1 (Func.ntmps Proofs.Tryz.f26) ⟨.leaf, 0⟩ (bodyOf Proofs.Tryz.f26) [1, 1, 1, 0, 1, 0] (kFinF K) (frF1 (sv cs) 0) (hF1 n m (sv cs) (rv rs) (enB []) 0) := by
  refine LAtZ.step XF_ok rfl [] [] [32] [1, 3, 43, 44, 45] (by kernel_rfl) (fun k F A => ∃ (i : Nat) (mm : MB), F = frF1 (sv cs) i ∧ A = hF1 n m (sv cs) (rv rs) (enB mm) mm.length ∧ i + k = cs.length ∧ (∀ x, aget mm x = if x ∈ seenF cs i then some true else none) ∧ colF [] cs = colF (seenF cs i) (cs.drop i)) ?_ (k := cs.length) ⟨0, [], rfl, rfl, by simp, by simp [aget, seenF], by simp [seenF]⟩
  rintro k F A ⟨i, mm, rfl, rfl, hk, hm, hx⟩
  refine (jCf1_nf K _ n m _ _ _ _ i).mpr ?_
  refine Sp.intro (fun c => ?_) (fun c => ?_)
  · have hlt : i < cs.length := by simpa [sv_len] using c
    have hw : IntKind.i64.wrap ((i : Int) + 1) = ((i + 1 : Nat) : Int) := by rw [i64_in (by omega) (by omega)]; rfl
    rw [colF_step hlt] at hx
    simp only [Int.toNat_natCast, st_at hlt, sv_nth hlt, hw, mgB_e, msB_e, mnB_e]
    refine ⟨by rw [sv_len]; omega, by first | trivial | rfl, hb _ (List.getElem_mem hlt), Sp.intro (fun c2 => ?_) (fun c2 => ⟨lookB mm _, Sp.intro (fun c3 => ?_) (fun c3 => ⟨updB mm _, HF_ss cs, HF_fd n m cs rs, HF_enB _, k - 1, by omega, i + 1, _, rfl, by first | trivial | rfl, by omega, fun x => ?_, ?_⟩)⟩)⟩
    · have e : nameB cs[i] = false := by simpa using c2
      rw [e] at hx
      have e2 : colF [] cs = 8 := hx
      have := hK0 (by rw [e2]; decide)
      rw [e2] at this; exact this _
    · have e : nameB cs[i] = true := by simpa using c2
      rw [hm] at c3
      have e3 : cs[i].data.toList ∈ seenF cs i := by
        by_cases h : cs[i].data.toList ∈ seenF cs i
        · exact h
        · rw [if_neg h] at c3; cases c3
      rw [e] at hx
      have e2 : colF [] cs = 5 := by rw [hx, decide_eq_true e3]; rfl
      have := hK0 (by rw [e2]; decide)
      rw [e2] at this; exact this _
    · rw [aset_get, seen_succ hlt, hm x]
      by_cases h : cs[i].data.toList = x
      · subst h; simp
      · rw [if_neg h]
        have : (x ∈ seenF cs i ++ [cs[i].data.toList]) ↔ x ∈ seenF cs i := by rw [List.mem_append, List.mem_singleton]; exact ⟨fun q => q.elim id (fun q => absurd q.symm h), .inl⟩
        simp only [this]
    · have e : nameB cs[i] = true := by simpa using c2
      rw [hm] at c3
      have e3 : ¬ cs[i].data.toList ∈ seenF cs i := fun h => by rw [if_pos h] at c3; cases c3
      rw [hx, e, decide_eq_false e3]; rfl
  · have hn : cs.drop i = [] := List.drop_eq_nil_of_le (by simp [sv_len] at c; omega)
    rw [hn] at hx
    have hx : colF [] cs = 0 := hx.trans (by cases seenF cs i <;> rfl)
    exact ⟨HF_rr rs, HF_fd n m cs rs, F2_loop n m cs rs hc hr (hK1 hx)⟩
end
end Go.T9
set_option maxRecDepth 1000000
set_option linter.unusedVariables false
set_option linter.unusedSimpArgs false
set_option maxHeartbeats 4000000
namespace Go.T9
open Go Go.AM Go.MK
noncomputable section
def fdF (m : Int) (cs : List SB) (rs : List (List SB)) : Int :=
  bif decide (m = 1) || decide (m = 2) then (bif decide (cs.length = 0) || decide (rs.length = 0) then 13 else bif decide (20 < cs.length) || decide (10000 < rs.length) then 3 else bif decide (colF [] cs = 0) then rowF cs.length rs else colF [] cs) else 7
theorem cf_walk (n : SB) (m : Int) (cs : List SB) (rs : List (List SB)) (hb : ∀ s ∈ cs, s.size < 9223372036854775808) : WalkZ env Proofs.Tryz.f26 [fdv n m (sv cs) (rv rs)] ⟨.leaf, 0⟩ (.int .i64 (fdF m cs rs)) := by
  refine sxFnZ_walk XF_ok (d := 1) ((jCf_nf _ n m _ _).mpr ?_)
  refine Sp.intro (fun c1 => Sp.intro (fun c2 => ?_) (fun c2 => ?_)) (fun c1 => ?_)
  · have e : fdF m cs rs = 7 := by
      simp at c1 c2
      unfold fdF; simp [c1, c2]
    rw [e]; exact Frz.same (HFi _ _)
  all_goals
    have hm : (decide (m = 1) || decide (m = 2)) = true := by first | (simp at c2; simp [c2]) | (simp at c1; simp [c1])
    refine Sp.intro (fun c3 => ?_) (fun c3 => Sp.intro (fun c4 => ?_) (fun c4 => Sp.intro (fun c5 => ?_) (fun c5 => Sp.intro (fun c6 => ?_) (fun c6 => ?_))))
    · have e : fdF m cs rs = 13 := by
        simp [sv_len] at c3
        unfold fdF; rw [hm]; simp [c3]
      rw [e]; exact Frz.same (HFi _ _)
    · have e : fdF m cs rs = 13 := by
        simp [rv_len] at c4
        unfold fdF; rw [hm]; simp [c4]
      rw [e]; exact Frz.same (HFi _ _)
    · have e : fdF m cs rs = 3 := by
        have h1 : 20 < cs.length := by simp [sv_len] at c5; omega
        have h3 : decide (cs.length = 0) = false := by simp; intro h; simp [h] at h1
        have h4 : decide (rs.length = 0) = false := by simp [rv_len] at c4; simp [c4]
        unfold fdF; rw [hm, h3, h4]; simp [h1]
      rw [e]; exact Frz.same (HFi _ _)
    · have e : fdF m cs rs = 3 := by
        have h1 : 10000 < rs.length := by simp [rv_len] at c6; omega
        have h3 : decide (cs.length = 0) = false := by simp [sv_len] at c3; simp [c3]
        have h4 : decide (rs.length = 0) = false := by simp [rv_len] at c4; simp [c4]
        unfold fdF; rw [hm, h3, h4]; simp [h1]
      rw [e]; exact Frz.same (HFi _ _)
    · have h1 : cs.length ≤ 20 := by simp [sv_len] at c5; omega
      have h2 : rs.length ≤ 10000 := by simp [rv_len] at c6; omega
      have h3 : decide (cs.length = 0) = false := by simp [sv_len] at c3; simp [c3]
      have h4 : decide (rs.length = 0) = false := by simp [rv_len] at c4; simp [c4]
      have e : fdF m cs rs = bif decide (colF [] cs = 0) then rowF cs.length rs else colF [] cs := by
        unfold fdF; rw [hm, h3, h4, show decide (20 < cs.length) = false by simp; omega, show decide (10000 < rs.length) = false by simp; omega]; rfl
      refine ⟨HF_ss cs, HF_fd n m cs rs, .agg HF.nil, F1_loop n m cs rs (by omega) (by omega) hb (fun h A => ?_) (fun h => ?_)⟩
      · rw [e, show decide (colF [] cs = 0) = false by simp [h]]; exact Frz.same (HFi _ _)
      · rw [e, show decide (colF [] cs = 0) = true by simp [h]]; exact Frz.same (HFi _ _)
end
end Go.T9
set_option maxRecDepth 1000000
set_option linter.unusedVariables false
set_option linter.unusedSimpArgs false
namespace Go.T9
open Go Go.AM Go.MK
noncomputable section
def unS (l : List Value) : List SB := l.map fun v => match v with | .string s => s | _ => ByteArray.empty
def unR (l : List Value) : List (List SB) := l.map fun v => match v with | .func _ ⟨r⟩ _ => unS r | _ => []
theorem unS_sv (l : List SB) : unS (sv l) = l := by
  unfold unS sv
  rw [List.map_map]
  exact (List.map_congr_left fun x _ => rfl).trans (List.map_id _)
theorem unR_rv (l : List (List SB)) : unR (rv l) = l := by
  unfold unR rv
  rw [List.map_map]
  exact (List.map_congr_left fun x _ => unS_sv x).trans (List.map_id _)
def cfX : List Value → Option Value
  | [.agg ⟨[.string _, .int .i64 m, .func (.yield 1) ⟨a⟩ ⟨[]⟩, .func (.yield 1) ⟨b⟩ ⟨[]⟩]⟩] => some (.int .i64 (fdF m (unS a) (unR b)))
  | _ => none
def cfPre : List Value → Option Prop
  | [.agg ⟨[.string _, .int .i64 m, .func (.yield 1) ⟨a⟩ ⟨[]⟩, .func (.yield 1) ⟨b⟩ ⟨[]⟩]⟩] => some (∃ (cs : List SB) (rs : List (List SB)), a = sv cs ∧ b = rv rs ∧ ∀ s ∈ cs, s.size < 9223372036854775808)
  | _ => none
theorem cf_tab : ∀ args A p v A', pureR cfPre cfX args A = some (p, v, A') → PH p → CallAt env 26 args A v A' := walk_tab env_ok env_gl (fn := Proofs.Tryz.f26) rfl fun args v h hp => by
  unfold cfX at h
  split at h
  · simp only [Option.some.injEq] at h
    subst h
    obtain ⟨cs, rs, rfl, rfl, hb⟩ := hp
    refine ⟨HF.cons (HF_fd _ _ cs rs) HF.nil, ?_⟩
    rw [unS_sv, unR_rv]
    exact cf_walk _ _ cs rs hb
  · cases h
end
end Go.T9
set_option maxRecDepth 1000000
set_option linter.unusedVariables false
set_option linter.unusedSimpArgs false
set_option maxHeartbeats 4000000
namespace Go.T9
open Go Go.AM
noncomputable section
def tbl0 : List (FuncId × ExtF) := []
theorem tbl0_ok : CallOk env (calls tbl0) := calls_ok .nil
def shrU (x : Int) (n : Nat) : Int := x.fdiv (2 ^ n)
def xorU (x y : Int) : Int := IntKind.u64.wrap (BitVec.ofInt IntKind.u64.bits x ^^^ BitVec.ofInt IntKind.u64.bits y).toNat
def mulU (x y : Int) : Int := IntKind.u64.wrap (x * y)
def mixF (x : Int) : Int :=
  let x := xorU x (shrU x 30)
  let x := mulU x 13787848793156543929
  let x := xorU x (shrU x 27)
  let x := mulU x 10723151780598845931
  xorU x (shrU x 31)
theorem mixed_walk (x : Int) : Walk env Proofs.Tryz.f95 [.int .u64 x] (.int .u64 (mixF x)) := by
  refine ⟨_, _, rfl, rfl, rfl, ?_⟩
  repeat' (first
    | refine OL.op rfl ?_
    | refine OL.nil ?_
    | refine Then.normal ?_
    | refine W.seq ?_
    | refine W.region env_ok tbl0_ok ?_
    | refine RL.quiet rfl rfl rfl rfl rfl rfl rfl ?_
    | refine RL.skip rfl rfl ?_
    | refine RL.read env_sym rfl rfl rfl rfl rfl rfl (by repeat' (first | exact .nil | exact .bit rfl | refine .chk ⟨_, rfl, rfl⟩ ?_)) rfl ?_
    | refine RL.alloc rfl rfl rfl rfl rfl ?_
    | refine RL.eff env_sym rfl rfl rfl rfl rfl (by repeat' (first | exact .nil | refine .bit rfl ?_ | refine .chk ⟨_, rfl, rfl⟩ ?_)) rfl rfl ?_
    | refine RL.fin rfl ?_
    | refine W.drawn env_ok tbl0_ok (by kernel_rfl) rfl rfl rfl rfl ?_
    | refine W.block ?_
    | refine WR.next ?_
    | refine W.ret ?_
    | refine W.skip ?_
    | refine Then.ret ?_
    | refine Blk.normal ?_
    | refine Blk.ret ?_
    | refine Blk.out ?_
    | refine Blk.on rfl ?_
    | refine Then.exit ?_
    | refine W.exit ?_
    | refine Fin.ret rfl ?_
    | (refine OL.split rfl rfl rfl rfl rfl rfl (fun hb => ?_) (fun hb => ?_) <;> try contradiction)
    | (refine RL.split rfl rfl rfl rfl rfl rfl (fun hb => ?_) (fun hb => ?_) <;> try contradiction)
    | (refine W.cond rfl (fun hc => ?_) (fun hc => ?_) <;> try contradiction)
    | refine OL.quiet rfl (quiet_quo env_sym rfl rfl (by assumption)) rfl ?_
    | refine OL.quiet rfl (quiet_rem env_sym rfl rfl (by assumption)) rfl ?_
    | refine RL.quiet rfl rfl rfl rfl (quiet_quo env_sym rfl rfl (by assumption)) rfl rfl ?_
    | refine RL.quiet rfl rfl rfl rfl (quiet_rem env_sym rfl rfl (by assumption)) rfl rfl ?_)
  exact .eq rfl (.scal rfl)
def mixX : List Value → Option Value
  | [.int .u64 x] => some (.int .u64 (mixF x))
  | _ => none
theorem mixed_con : Con env 95 (pureX mixX) := con_pure env_ok env_gl (fn := Proofs.Tryz.f95) rfl fun args v h => by
  unfold mixX at h
  split at h
  · simp only [Option.some.injEq] at h
    subst h
    exact ⟨HF.cons (.scal rfl) HF.nil, mixed_walk _⟩
  · cases h
def tblM : List (FuncId × ExtF) := [(95, pureX mixX)]
theorem tblM_ok : CallOk env (calls tblM) := calls_ok (.cons mixed_con .nil)
def stepF (x k : Int) : Int := mixF (IntKind.u64.wrap (x + IntKind.u64.wrap (11400714819323198485 * IntKind.u64.wrap (IntKind.i64.wrap (k + 1)))))
def drawF (s p w n : Int) : Int := IntKind.i64.wrap (shrU (stepF (stepF (stepF (IntKind.u64.wrap s) p) w) n) 32)
theorem draw_walk (s p w n : Int) : Walk env Proofs.Tryz.f60 [.int .i64 s, .int .i64 p, .int .i64 w, .int .i64 n] (.int .i64 (drawF s p w n)) := by
  refine ⟨_, _, rfl, rfl, rfl, ?_⟩
  repeat' (first
    | refine OL.op rfl ?_
    | refine OL.nil ?_
    | refine Then.normal ?_
    | refine W.seq ?_
    | refine W.region env_ok tblM_ok ?_
    | refine RL.quiet rfl rfl rfl rfl rfl rfl rfl ?_
    | refine RL.skip rfl rfl ?_
    | refine RL.read env_sym rfl rfl rfl rfl rfl rfl (by repeat' (first | exact .nil | exact .bit rfl | refine .chk ⟨_, rfl, rfl⟩ ?_)) rfl ?_
    | refine RL.alloc rfl rfl rfl rfl rfl ?_
    | refine RL.eff env_sym rfl rfl rfl rfl rfl (by repeat' (first | exact .nil | refine .bit rfl ?_ | refine .chk ⟨_, rfl, rfl⟩ ?_)) rfl rfl ?_
    | refine RL.fin rfl ?_
    | refine W.drawn env_ok tblM_ok (by kernel_rfl) rfl rfl rfl rfl ?_
    | refine W.block ?_
    | refine WR.next ?_
    | refine W.ret ?_
    | refine W.skip ?_
    | refine Then.ret ?_
    | refine Blk.normal ?_
    | refine Blk.ret ?_
    | refine Blk.out ?_
    | refine Blk.on rfl ?_
    | refine Then.exit ?_
    | refine W.exit ?_
    | refine Fin.ret rfl ?_
    | (refine OL.split rfl rfl rfl rfl rfl rfl (fun hb => ?_) (fun hb => ?_) <;> try contradiction)
    | (refine RL.split rfl rfl rfl rfl rfl rfl (fun hb => ?_) (fun hb => ?_) <;> try contradiction)
    | (refine W.cond rfl (fun hc => ?_) (fun hc => ?_) <;> try (first | contradiction | (exfalso; revert hc; decide)))
    | refine OL.quiet rfl (quiet_quo env_sym rfl rfl (by assumption)) rfl ?_
    | refine OL.quiet rfl (quiet_rem env_sym rfl rfl (by assumption)) rfl ?_
    | refine RL.quiet rfl rfl rfl rfl (quiet_quo env_sym rfl rfl (by assumption)) rfl rfl ?_
    | refine RL.quiet rfl rfl rfl rfl (quiet_rem env_sym rfl rfl (by assumption)) rfl rfl ?_
    | refine W.rounds 5 ?_)
  exact .eq rfl (.scal rfl)
def drawX : List Value → Option Value
  | [.int .i64 s, .int .i64 p, .int .i64 w, .int .i64 n] => some (.int .i64 (drawF s p w n))
  | _ => none
theorem draw_con : Con env 60 (pureX drawX) := con_pure env_ok env_gl (fn := Proofs.Tryz.f60) rfl fun args v h => by
  unfold drawX at h
  split at h
  · simp only [Option.some.injEq] at h
    subst h
    exact ⟨HF.cons (.scal rfl) (HF.cons (.scal rfl) (HF.cons (.scal rfl) (HF.cons (.scal rfl) HF.nil))), draw_walk _ _ _ _⟩
  · cases h
def tblD : List (FuncId × ExtF) := [(60, pureX drawX)]
theorem tblD_ok : CallOk env (calls tblD) := calls_ok (.cons draw_con .nil)
def blV (s p w n m : Int) : Int := IntKind.i64.wrap (shrU (IntKind.u64.wrap (IntKind.u64.wrap (drawF s p w n) * IntKind.u64.wrap m)) 32)
theorem bl_walk (s p w n m : Int) : Walk env Proofs.Tryz.f33 [.int .i64 s, .int .i64 p, .int .i64 w, .int .i64 n, .int .i64 m] (.int .i64 (blV s p w n m)) := by
  refine ⟨_, _, rfl, rfl, rfl, ?_⟩
  repeat' (first
    | refine OL.op rfl ?_
    | refine OL.nil ?_
    | refine Then.normal ?_
    | refine W.seq ?_
    | refine W.region env_ok tblD_ok ?_
    | refine RL.quiet rfl rfl rfl rfl rfl rfl rfl ?_
    | refine RL.skip rfl rfl ?_
    | refine RL.read env_sym rfl rfl rfl rfl rfl rfl (by repeat' (first | exact .nil | exact .bit rfl | refine .chk ⟨_, rfl, rfl⟩ ?_)) rfl ?_
    | refine RL.alloc rfl rfl rfl rfl rfl ?_
    | refine RL.eff env_sym rfl rfl rfl rfl rfl (by repeat' (first | exact .nil | refine .bit rfl ?_ | refine .chk ⟨_, rfl, rfl⟩ ?_)) rfl rfl ?_
    | refine RL.fin rfl ?_
    | refine W.drawn env_ok tblD_ok (by kernel_rfl) rfl rfl rfl rfl ?_
    | refine W.block ?_
    | refine WR.next ?_
    | refine W.ret ?_
    | refine W.skip ?_
    | refine Then.ret ?_
    | refine Blk.normal ?_
    | refine Blk.ret ?_
    | refine Blk.out ?_
    | refine Blk.on rfl ?_
    | refine Then.exit ?_
    | refine W.exit ?_
    | refine Fin.ret rfl ?_
    | (refine OL.split rfl rfl rfl rfl rfl rfl (fun hb => ?_) (fun hb => ?_) <;> try contradiction)
    | (refine RL.split rfl rfl rfl rfl rfl rfl (fun hb => ?_) (fun hb => ?_) <;> try contradiction)
    | (refine W.cond rfl (fun hc => ?_) (fun hc => ?_) <;> try contradiction)
    | refine OL.quiet rfl (quiet_quo env_sym rfl rfl (by assumption)) rfl ?_
    | refine OL.quiet rfl (quiet_rem env_sym rfl rfl (by assumption)) rfl ?_
    | refine RL.quiet rfl rfl rfl rfl (quiet_quo env_sym rfl rfl (by assumption)) rfl rfl ?_
    | refine RL.quiet rfl rfl rfl rfl (quiet_rem env_sym rfl rfl (by assumption)) rfl rfl ?_)
  exact .eq rfl (.scal rfl)
end
end Go.T9
set_option maxRecDepth 1000000
set_option linter.unusedVariables false
set_option linter.unusedSimpArgs false
set_option maxHeartbeats 4000000
namespace Go.T9
open Go Go.AM Go.MK
noncomputable section
theorem bl_some (s p w n m : Int) : ∃ y, y = blV s p w n m := ⟨_, rfl⟩
def blW (s p w n m : Int) : Int := Classical.choose (bl_some s p w n m)
theorem blW_walk (s p w n m : Int) : Walk env Proofs.Tryz.f33 [.int .i64 s, .int .i64 p, .int .i64 w, .int .i64 n, .int .i64 m] (.int .i64 (blW s p w n m)) := by
  have e : blW s p w n m = blV s p w n m := Classical.choose_spec (bl_some s p w n m)
  rw [e]; exact bl_walk s p w n m
def blX : List Value → Option Value
  | [.int .i64 s, .int .i64 p, .int .i64 w, .int .i64 n, .int .i64 m] => some (.int .i64 (blW s p w n m))
  | _ => none
theorem bl_con : Con env 33 (pureX blX) := con_pure env_ok env_gl (fn := Proofs.Tryz.f33) rfl fun args v h => by
  unfold blX at h
  split at h
  · simp only [Option.some.injEq] at h
    subst h
    exact ⟨HF.cons (.scal rfl) (HF.cons (.scal rfl) (HF.cons (.scal rfl) (HF.cons (.scal rfl) (HF.cons (.scal rfl) HF.nil)))), blW_walk _ _ _ _ _⟩
  · cases h
def tabR : Tab := [(25, pureR nmPre nmX), (26, pureR cfPre cfX), (33, pureR (fun _ => none) blX)]
theorem tabR_ok : TabOk env tabR := .cons nm_tab (.cons cf_tab (.cons (con_tab bl_con) .nil))
def XR : SX := ⟨env, tabR, noEl, fun _ => .unroll 4⟩
theorem XR_ok : XR.Ok := ⟨env_ok, env_sym, env_gl, tabR_ok⟩
def jRow (K : KV) (n : SB) (m : Int) (cols rows : List Value) (sd wh ti dr : Int) : Prop := sxFn XR 4 Proofs.Tryz.f11 [fdv n m cols rows, .int .i64 sd, .int .i64 wh, .int .i64 ti, .int .i64 dr] K
end
end Go.T9
set_option maxRecDepth 1000000
set_option linter.unusedVariables false
set_option linter.unusedSimpArgs false
set_option maxHeartbeats 4000000
namespace Go.T9
open Go Go.AM Go.MK
noncomputable section
theorem jRow_nf (K : KV) (n : SB) (m : Int) (cols : List Go.Value) (rows : List Go.Value) (sd : Int) (wh : Int) (ti : Int) (dr : Int) : jRow K n m cols rows sd wh ti dr = (ByteArray.size n < (9223372036854775808 : Nat) ∧ Sp (!nameB n) (K (Value.tuple (Array.mk [Value.int IntKind.i64 (0 : Int), Value.int IntKind.i64 (8 : Int)])) (AH.mk (T.node (T.node (T.node T.leaf (Option.some (AObj.cells [Value.string n, Value.int IntKind.i64 m, Value.func (Go.Fn.yield (1 : Nat)) (Array.mk cols) (Array.mk []), Value.func (Go.Fn.yield (1 : Nat)) (Array.mk rows) (Array.mk [])] (32 : Nat))) T.leaf) (Option.some (AObj.cells [Value.string n, Value.int IntKind.i64 m, Value.func (Go.Fn.yield (1 : Nat)) (Array.mk cols) (Array.mk []), Value.func (Go.Fn.yield (1 : Nat)) (Array.mk rows) (Array.mk [])] (32 : Nat))) T.leaf) (Option.some (AObj.cells [Value.string n, Value.int IntKind.i64 m, Value.func (Go.Fn.yield (1 : Nat)) (Array.mk cols) (Array.mk []), Value.func (Go.Fn.yield (1 : Nat)) (Array.mk rows) (Array.mk [])] (32 : Nat))) (T.node T.leaf (Option.some (AObj.map [] (0 : Nat))) T.leaf)) (4 : Nat))) ((∃ (cs : List SB), ∃ (rs : List (List SB)), cols = sv cs ∧ rows = rv rs ∧ ∀ (s : SB), s ∈ cs → ByteArray.size s < (9223372036854775808 : Nat)) ∧ Sp (!decide (fdF m (unS cols) (unR rows) = (0 : Int))) (Sp (!decide (fdF m (unS cols) (unR rows) = (0 : Int))) (K (Value.tuple (Array.mk [Value.int IntKind.i64 (0 : Int), Value.int IntKind.i64 (fdF m (unS cols) (unR rows))])) (AH.mk (T.node (T.node (T.node T.leaf (Option.some (AObj.cells [Value.string n, Value.int IntKind.i64 m, Value.func (Go.Fn.yield (1 : Nat)) (Array.mk cols) (Array.mk []), Value.func (Go.Fn.yield (1 : Nat)) (Array.mk rows) (Array.mk [])] (32 : Nat))) T.leaf) (Option.some (AObj.cells [Value.string n, Value.int IntKind.i64 m, Value.func (Go.Fn.yield (1 : Nat)) (Array.mk cols) (Array.mk []), Value.func (Go.Fn.yield (1 : Nat)) (Array.mk rows) (Array.mk [])] (32 : Nat))) T.leaf) (Option.some (AObj.cells [Value.string n, Value.int IntKind.i64 m, Value.func (Go.Fn.yield (1 : Nat)) (Array.mk cols) (Array.mk []), Value.func (Go.Fn.yield (1 : Nat)) (Array.mk rows) (Array.mk [])] (32 : Nat))) (T.node T.leaf (Option.some (AObj.map [(Value.string n, Value.bool Bool.true, (0 : Nat))] (1 : Nat))) T.leaf)) (4 : Nat))) (Sp (decide (wh < (0 : Int))) (K (Value.tuple (Array.mk [Value.int IntKind.i64 (0 : Int), Value.int IntKind.i64 (9 : Int)])) (AH.mk (T.node (T.node (T.node T.leaf (Option.some (AObj.cells [Value.string n, Value.int IntKind.i64 m, Value.func (Go.Fn.yield (1 : Nat)) (Array.mk cols) (Array.mk []), Value.func (Go.Fn.yield (1 : Nat)) (Array.mk rows) (Array.mk [])] (32 : Nat))) T.leaf) (Option.some (AObj.cells [Value.string n, Value.int IntKind.i64 m, Value.func (Go.Fn.yield (1 : Nat)) (Array.mk cols) (Array.mk []), Value.func (Go.Fn.yield (1 : Nat)) (Array.mk rows) (Array.mk [])] (32 : Nat))) T.leaf) (Option.some (AObj.cells [Value.string n, Value.int IntKind.i64 m, Value.func (Go.Fn.yield (1 : Nat)) (Array.mk cols) (Array.mk []), Value.func (Go.Fn.yield (1 : Nat)) (Array.mk rows) (Array.mk [])] (32 : Nat))) (T.node (T.node T.leaf (Option.some (AObj.cells [Value.int IntKind.i64 wh, Value.int IntKind.i64 ti, Value.int IntKind.i64 dr] (3 : Nat))) T.leaf) (Option.some (AObj.map [(Value.string n, Value.bool Bool.true, (0 : Nat))] (1 : Nat))) T.leaf)) (5 : Nat))) (Sp (decide ((1000000000000 : Int) < wh)) (K (Value.tuple (Array.mk [Value.int IntKind.i64 (0 : Int), Value.int IntKind.i64 (9 : Int)])) (AH.mk (T.node (T.node (T.node T.leaf (Option.some (AObj.cells [Value.string n, Value.int IntKind.i64 m, Value.func (Go.Fn.yield (1 : Nat)) (Array.mk cols) (Array.mk []), Value.func (Go.Fn.yield (1 : Nat)) (Array.mk rows) (Array.mk [])] (32 : Nat))) T.leaf) (Option.some (AObj.cells [Value.string n, Value.int IntKind.i64 m, Value.func (Go.Fn.yield (1 : Nat)) (Array.mk cols) (Array.mk []), Value.func (Go.Fn.yield (1 : Nat)) (Array.mk rows) (Array.mk [])] (32 : Nat))) T.leaf) (Option.some (AObj.cells [Value.string n, Value.int IntKind.i64 m, Value.func (Go.Fn.yield (1 : Nat)) (Array.mk cols) (Array.mk []), Value.func (Go.Fn.yield (1 : Nat)) (Array.mk rows) (Array.mk [])] (32 : Nat))) (T.node (T.node T.leaf (Option.some (AObj.cells [Value.int IntKind.i64 wh, Value.int IntKind.i64 ti, Value.int IntKind.i64 dr] (3 : Nat))) T.leaf) (Option.some (AObj.map [(Value.string n, Value.bool Bool.true, (0 : Nat))] (1 : Nat))) T.leaf)) (5 : Nat))) (Sp (decide (ti < (0 : Int))) (K (Value.tuple (Array.mk [Value.int IntKind.i64 (0 : Int), Value.int IntKind.i64 (9 : Int)])) (AH.mk (T.node (T.node (T.node T.leaf (Option.some (AObj.cells [Value.string n, Value.int IntKind.i64 m, Value.func (Go.Fn.yield (1 : Nat)) (Array.mk cols) (Array.mk []), Value.func (Go.Fn.yield (1 : Nat)) (Array.mk rows) (Array.mk [])] (32 : Nat))) T.leaf) (Option.some (AObj.cells [Value.string n, Value.int IntKind.i64 m, Value.func (Go.Fn.yield (1 : Nat)) (Array.mk cols) (Array.mk []), Value.func (Go.Fn.yield (1 : Nat)) (Array.mk rows) (Array.mk [])] (32 : Nat))) T.leaf) (Option.some (AObj.cells [Value.string n, Value.int IntKind.i64 m, Value.func (Go.Fn.yield (1 : Nat)) (Array.mk cols) (Array.mk []), Value.func (Go.Fn.yield (1 : Nat)) (Array.mk rows) (Array.mk [])] (32 : Nat))) (T.node (T.node T.leaf (Option.some (AObj.cells [Value.int IntKind.i64 wh, Value.int IntKind.i64 ti, Value.int IntKind.i64 dr] (3 : Nat))) T.leaf) (Option.some (AObj.map [(Value.string n, Value.bool Bool.true, (0 : Nat))] (1 : Nat))) T.leaf)) (5 : Nat))) (Sp (decide ((1000000000000 : Int) < ti)) (K (Value.tuple (Array.mk [Value.int IntKind.i64 (0 : Int), Value.int IntKind.i64 (9 : Int)])) (AH.mk (T.node (T.node (T.node T.leaf (Option.some (AObj.cells [Value.string n, Value.int IntKind.i64 m, Value.func (Go.Fn.yield (1 : Nat)) (Array.mk cols) (Array.mk []), Value.func (Go.Fn.yield (1 : Nat)) (Array.mk rows) (Array.mk [])] (32 : Nat))) T.leaf) (Option.some (AObj.cells [Value.string n, Value.int IntKind.i64 m, Value.func (Go.Fn.yield (1 : Nat)) (Array.mk cols) (Array.mk []), Value.func (Go.Fn.yield (1 : Nat)) (Array.mk rows) (Array.mk [])] (32 : Nat))) T.leaf) (Option.some (AObj.cells [Value.string n, Value.int IntKind.i64 m, Value.func (Go.Fn.yield (1 : Nat)) (Array.mk cols) (Array.mk []), Value.func (Go.Fn.yield (1 : Nat)) (Array.mk rows) (Array.mk [])] (32 : Nat))) (T.node (T.node T.leaf (Option.some (AObj.cells [Value.int IntKind.i64 wh, Value.int IntKind.i64 ti, Value.int IntKind.i64 dr] (3 : Nat))) T.leaf) (Option.some (AObj.map [(Value.string n, Value.bool Bool.true, (0 : Nat))] (1 : Nat))) T.leaf)) (5 : Nat))) (Sp (decide (dr < (0 : Int))) (K (Value.tuple (Array.mk [Value.int IntKind.i64 (0 : Int), Value.int IntKind.i64 (9 : Int)])) (AH.mk (T.node (T.node (T.node T.leaf (Option.some (AObj.cells [Value.string n, Value.int IntKind.i64 m, Value.func (Go.Fn.yield (1 : Nat)) (Array.mk cols) (Array.mk []), Value.func (Go.Fn.yield (1 : Nat)) (Array.mk rows) (Array.mk [])] (32 : Nat))) T.leaf) (Option.some (AObj.cells [Value.string n, Value.int IntKind.i64 m, Value.func (Go.Fn.yield (1 : Nat)) (Array.mk cols) (Array.mk []), Value.func (Go.Fn.yield (1 : Nat)) (Array.mk rows) (Array.mk [])] (32 : Nat))) T.leaf) (Option.some (AObj.cells [Value.string n, Value.int IntKind.i64 m, Value.func (Go.Fn.yield (1 : Nat)) (Array.mk cols) (Array.mk []), Value.func (Go.Fn.yield (1 : Nat)) (Array.mk rows) (Array.mk [])] (32 : Nat))) (T.node (T.node T.leaf (Option.some (AObj.cells [Value.int IntKind.i64 wh, Value.int IntKind.i64 ti, Value.int IntKind.i64 dr] (3 : Nat))) T.leaf) (Option.some (AObj.map [(Value.string n, Value.bool Bool.true, (0 : Nat))] (1 : Nat))) T.leaf)) (5 : Nat))) (Sp (decide ((1000000000000 : Int) < dr)) (K (Value.tuple (Array.mk [Value.int IntKind.i64 (0 : Int), Value.int IntKind.i64 (9 : Int)])) (AH.mk (T.node (T.node (T.node T.leaf (Option.some (AObj.cells [Value.string n, Value.int IntKind.i64 m, Value.func (Go.Fn.yield (1 : Nat)) (Array.mk cols) (Array.mk []), Value.func (Go.Fn.yield (1 : Nat)) (Array.mk rows) (Array.mk [])] (32 : Nat))) T.leaf) (Option.some (AObj.cells [Value.string n, Value.int IntKind.i64 m, Value.func (Go.Fn.yield (1 : Nat)) (Array.mk cols) (Array.mk []), Value.func (Go.Fn.yield (1 : Nat)) (Array.mk rows) (Array.mk [])] (32 : Nat))) T.leaf) (Option.some (AObj.cells [Value.string n, Value.int IntKind.i64 m, Value.func (Go.Fn.yield (1 : Nat)) (Array.mk cols) (Array.mk []), Value.func (Go.Fn.yield (1 : Nat)) (Array.mk rows) (Array.mk [])] (32 : Nat))) (T.node (T.node T.leaf (Option.some (AObj.cells [Value.int IntKind.i64 wh, Value.int IntKind.i64 ti, Value.int IntKind.i64 dr] (3 : Nat))) T.leaf) (Option.some (AObj.map [(Value.string n, Value.bool Bool.true, (0 : Nat))] (1 : Nat))) T.leaf)) (5 : Nat))) (Sp (decide (m = (1 : Int))) (NZ (↑(List.length rows) : Int) ∧ K (Value.tuple (Array.mk [Value.int IntKind.i64 (Int.tmod (IntKind.wrap IntKind.i64 (wh + ti)) (↑(List.length rows) : Int)), Value.int IntKind.i64 (0 : Int)])) (AH.mk (T.node (T.node (T.node T.leaf (Option.some (AObj.cells [Value.string n, Value.int IntKind.i64 m, Value.func (Go.Fn.yield (1 : Nat)) (Array.mk cols) (Array.mk []), Value.func (Go.Fn.yield (1 : Nat)) (Array.mk rows) (Array.mk [])] (32 : Nat))) T.leaf) (Option.some (AObj.cells [Value.string n, Value.int IntKind.i64 m, Value.func (Go.Fn.yield (1 : Nat)) (Array.mk cols) (Array.mk []), Value.func (Go.Fn.yield (1 : Nat)) (Array.mk rows) (Array.mk [])] (32 : Nat))) (T.node T.leaf (Option.some (AObj.cells [Value.string n, Value.int IntKind.i64 m, Value.func (Go.Fn.yield (1 : Nat)) (Array.mk cols) (Array.mk []), Value.func (Go.Fn.yield (1 : Nat)) (Array.mk rows) (Array.mk [])] (32 : Nat))) T.leaf)) (Option.some (AObj.cells [Value.string n, Value.int IntKind.i64 m, Value.func (Go.Fn.yield (1 : Nat)) (Array.mk cols) (Array.mk []), Value.func (Go.Fn.yield (1 : Nat)) (Array.mk rows) (Array.mk [])] (32 : Nat))) (T.node (T.node T.leaf (Option.some (AObj.cells [Value.int IntKind.i64 wh, Value.int IntKind.i64 ti, Value.int IntKind.i64 dr] (3 : Nat))) T.leaf) (Option.some (AObj.map [(Value.string n, Value.bool Bool.true, (0 : Nat))] (1 : Nat))) T.leaf)) (6 : Nat))) (K (Value.tuple (Array.mk [Value.int IntKind.i64 (blW sd (4 : Int) wh dr (↑(List.length rows) : Int)), Value.int IntKind.i64 (0 : Int)])) (AH.mk (T.node (T.node (T.node T.leaf (Option.some (AObj.cells [Value.string n, Value.int IntKind.i64 m, Value.func (Go.Fn.yield (1 : Nat)) (Array.mk cols) (Array.mk []), Value.func (Go.Fn.yield (1 : Nat)) (Array.mk rows) (Array.mk [])] (32 : Nat))) T.leaf) (Option.some (AObj.cells [Value.string n, Value.int IntKind.i64 m, Value.func (Go.Fn.yield (1 : Nat)) (Array.mk cols) (Array.mk []), Value.func (Go.Fn.yield (1 : Nat)) (Array.mk rows) (Array.mk [])] (32 : Nat))) (T.node T.leaf (Option.some (AObj.cells [Value.string n, Value.int IntKind.i64 m, Value.func (Go.Fn.yield (1 : Nat)) (Array.mk cols) (Array.mk []), Value.func (Go.Fn.yield (1 : Nat)) (Array.mk rows) (Array.mk [])] (32 : Nat))) T.leaf)) (Option.some (AObj.cells [Value.string n, Value.int IntKind.i64 m, Value.func (Go.Fn.yield (1 : Nat)) (Array.mk cols) (Array.mk []), Value.func (Go.Fn.yield (1 : Nat)) (Array.mk rows) (Array.mk [])] (32 : Nat))) (T.node (T.node T.leaf (Option.some (AObj.cells [Value.int IntKind.i64 wh, Value.int IntKind.i64 ti, Value.int IntKind.i64 dr] (3 : Nat))) T.leaf) (Option.some (AObj.map [(Value.string n, Value.bool Bool.true, (0 : Nat))] (1 : Nat))) T.leaf)) (6 : Nat))))))))))) (Sp (decide (wh < (0 : Int))) (K (Value.tuple (Array.mk [Value.int IntKind.i64 (0 : Int), Value.int IntKind.i64 (9 : Int)])) (AH.mk (T.node (T.node (T.node T.leaf (Option.some (AObj.cells [Value.string n, Value.int IntKind.i64 m, Value.func (Go.Fn.yield (1 : Nat)) (Array.mk cols) (Array.mk []), Value.func (Go.Fn.yield (1 : Nat)) (Array.mk rows) (Array.mk [])] (32 : Nat))) T.leaf) (Option.some (AObj.cells [Value.string n, Value.int IntKind.i64 m, Value.func (Go.Fn.yield (1 : Nat)) (Array.mk cols) (Array.mk []), Value.func (Go.Fn.yield (1 : Nat)) (Array.mk rows) (Array.mk [])] (32 : Nat))) T.leaf) (Option.some (AObj.cells [Value.string n, Value.int IntKind.i64 m, Value.func (Go.Fn.yield (1 : Nat)) (Array.mk cols) (Array.mk []), Value.func (Go.Fn.yield (1 : Nat)) (Array.mk rows) (Array.mk [])] (32 : Nat))) (T.node (T.node T.leaf (Option.some (AObj.cells [Value.int IntKind.i64 wh, Value.int IntKind.i64 ti, Value.int IntKind.i64 dr] (3 : Nat))) T.leaf) (Option.some (AObj.map [(Value.string n, Value.bool Bool.true, (0 : Nat))] (1 : Nat))) T.leaf)) (5 : Nat))) (Sp (decide ((1000000000000 : Int) < wh)) (K (Value.tuple (Array.mk [Value.int IntKind.i64 (0 : Int), Value.int IntKind.i64 (9 : Int)])) (AH.mk (T.node (T.node (T.node T.leaf (Option.some (AObj.cells [Value.string n, Value.int IntKind.i64 m, Value.func (Go.Fn.yield (1 : Nat)) (Array.mk cols) (Array.mk []), Value.func (Go.Fn.yield (1 : Nat)) (Array.mk rows) (Array.mk [])] (32 : Nat))) T.leaf) (Option.some (AObj.cells [Value.string n, Value.int IntKind.i64 m, Value.func (Go.Fn.yield (1 : Nat)) (Array.mk cols) (Array.mk []), Value.func (Go.Fn.yield (1 : Nat)) (Array.mk rows) (Array.mk [])] (32 : Nat))) T.leaf) (Option.some (AObj.cells [Value.string n, Value.int IntKind.i64 m, Value.func (Go.Fn.yield (1 : Nat)) (Array.mk cols) (Array.mk []), Value.func (Go.Fn.yield (1 : Nat)) (Array.mk rows) (Array.mk [])] (32 : Nat))) (T.node (T.node T.leaf (Option.some (AObj.cells [Value.int IntKind.i64 wh, Value.int IntKind.i64 ti, Value.int IntKind.i64 dr] (3 : Nat))) T.leaf) (Option.some (AObj.map [(Value.string n, Value.bool Bool.true, (0 : Nat))] (1 : Nat))) T.leaf)) (5 : Nat))) (Sp (decide (ti < (0 : Int))) (K (Value.tuple (Array.mk [Value.int IntKind.i64 (0 : Int), Value.int IntKind.i64 (9 : Int)])) (AH.mk (T.node (T.node (T.node T.leaf (Option.some (AObj.cells [Value.string n, Value.int IntKind.i64 m, Value.func (Go.Fn.yield (1 : Nat)) (Array.mk cols) (Array.mk []), Value.func (Go.Fn.yield (1 : Nat)) (Array.mk rows) (Array.mk [])] (32 : Nat))) T.leaf) (Option.some (AObj.cells [Value.string n, Value.int IntKind.i64 m, Value.func (Go.Fn.yield (1 : Nat)) (Array.mk cols) (Array.mk []), Value.func (Go.Fn.yield (1 : Nat)) (Array.mk rows) (Array.mk [])] (32 : Nat))) T.leaf) (Option.some (AObj.cells [Value.string n, Value.int IntKind.i64 m, Value.func (Go.Fn.yield (1 : Nat)) (Array.mk cols) (Array.mk []), Value.func (Go.Fn.yield (1 : Nat)) (Array.mk rows) (Array.mk [])] (32 : Nat))) (T.node (T.node T.leaf (Option.some (AObj.cells [Value.int IntKind.i64 wh, Value.int IntKind.i64 ti, Value.int IntKind.i64 dr] (3 : Nat))) T.leaf) (Option.some (AObj.map [(Value.string n, Value.bool Bool.true, (0 : Nat))] (1 : Nat))) T.leaf)) (5 : Nat))) (Sp (decide ((1000000000000 : Int) < ti)) (K (Value.tuple (Array.mk [Value.int IntKind.i64 (0 : Int), Value.int IntKind.i64 (9 : Int)])) (AH.mk (T.node (T.node (T.node T.leaf (Option.some (AObj.cells [Value.string n, Value.int IntKind.i64 m, Value.func (Go.Fn.yield (1 : Nat)) (Array.mk cols) (Array.mk []), Value.func (Go.Fn.yield (1 : Nat)) (Array.mk rows) (Array.mk [])] (32 : Nat))) T.leaf) (Option.some (AObj.cells [Value.string n, Value.int IntKind.i64 m, Value.func (Go.Fn.yield (1 : Nat)) (Array.mk cols) (Array.mk []), Value.func (Go.Fn.yield (1 : Nat)) (Array.mk rows) (Array.mk [])] (32 : Nat))) T.leaf) (Option.some (AObj.cells [Value.string n, Value.int IntKind.i64 m, Value.func (Go.Fn.yield (1 : Nat)) (Array.mk cols) (Array.mk []), Value.func (Go.Fn.yield (1 : Nat)) (Array.mk rows) (Array.mk [])] (32 : Nat))) (T.node (T.node T.leaf (Option.some (AObj.cells [Value.int IntKind.i64 wh, Value.int IntKind.i64 ti, Value.int IntKind.i64 dr] (3 : Nat))) T.leaf) (Option.some (AObj.map [(Value.string n, Value.bool Bool.true, (0 : Nat))] (1 : Nat))) T.leaf)) (5 : Nat))) (Sp (decide (dr < (0 : Int))) (K (Value.tuple (Array.mk [Value.int IntKind.i64 (0 : Int), Value.int IntKind.i64 (9 : Int)])) (AH.mk (T.node (T.node (T.node T.leaf (Option.some (AObj.cells [Value.string n, Value.int IntKind.i64 m, Value.func (Go.Fn.yield (1 : Nat)) (Array.mk cols) (Array.mk []), Value.func (Go.Fn.yield (1 : Nat)) (Array.mk rows) (Array.mk [])] (32 : Nat))) T.leaf) (Option.some (AObj.cells [Value.string n, Value.int IntKind.i64 m, Value.func (Go.Fn.yield (1 : Nat)) (Array.mk cols) (Array.mk []), Value.func (Go.Fn.yield (1 : Nat)) (Array.mk rows) (Array.mk [])] (32 : Nat))) T.leaf) (Option.some (AObj.cells [Value.string n, Value.int IntKind.i64 m, Value.func (Go.Fn.yield (1 : Nat)) (Array.mk cols) (Array.mk []), Value.func (Go.Fn.yield (1 : Nat)) (Array.mk rows) (Array.mk [])] (32 : Nat))) (T.node (T.node T.leaf (Option.some (AObj.cells [Value.int IntKind.i64 wh, Value.int IntKind.i64 ti, Value.int IntKind.i64 dr] (3 : Nat))) T.leaf) (Option.some (AObj.map [(Value.string n, Value.bool Bool.true, (0 : Nat))] (1 : Nat))) T.leaf)) (5 : Nat))) (Sp (decide ((1000000000000 : Int) < dr)) (K (Value.tuple (Array.mk [Value.int IntKind.i64 (0 : Int), Value.int IntKind.i64 (9 : Int)])) (AH.mk (T.node (T.node (T.node T.leaf (Option.some (AObj.cells [Value.string n, Value.int IntKind.i64 m, Value.func (Go.Fn.yield (1 : Nat)) (Array.mk cols) (Array.mk []), Value.func (Go.Fn.yield (1 : Nat)) (Array.mk rows) (Array.mk [])] (32 : Nat))) T.leaf) (Option.some (AObj.cells [Value.string n, Value.int IntKind.i64 m, Value.func (Go.Fn.yield (1 : Nat)) (Array.mk cols) (Array.mk []), Value.func (Go.Fn.yield (1 : Nat)) (Array.mk rows) (Array.mk [])] (32 : Nat))) T.leaf) (Option.some (AObj.cells [Value.string n, Value.int IntKind.i64 m, Value.func (Go.Fn.yield (1 : Nat)) (Array.mk cols) (Array.mk []), Value.func (Go.Fn.yield (1 : Nat)) (Array.mk rows) (Array.mk [])] (32 : Nat))) (T.node (T.node T.leaf (Option.some (AObj.cells [Value.int IntKind.i64 wh, Value.int IntKind.i64 ti, Value.int IntKind.i64 dr] (3 : Nat))) T.leaf) (Option.some (AObj.map [(Value.string n, Value.bool Bool.true, (0 : Nat))] (1 : Nat))) T.leaf)) (5 : Nat))) (Sp (decide (m = (1 : Int))) (NZ (↑(List.length rows) : Int) ∧ K (Value.tuple (Array.mk [Value.int IntKind.i64 (Int.tmod (IntKind.wrap IntKind.i64 (wh + ti)) (↑(List.length rows) : Int)), Value.int IntKind.i64 (0 : Int)])) (AH.mk (T.node (T.node (T.node T.leaf (Option.some (AObj.cells [Value.string n, Value.int IntKind.i64 m, Value.func (Go.Fn.yield (1 : Nat)) (Array.mk cols) (Array.mk []), Value.func (Go.Fn.yield (1 : Nat)) (Array.mk rows) (Array.mk [])] (32 : Nat))) T.leaf) (Option.some (AObj.cells [Value.string n, Value.int IntKind.i64 m, Value.func (Go.Fn.yield (1 : Nat)) (Array.mk cols) (Array.mk []), Value.func (Go.Fn.yield (1 : Nat)) (Array.mk rows) (Array.mk [])] (32 : Nat))) (T.node T.leaf (Option.some (AObj.cells [Value.string n, Value.int IntKind.i64 m, Value.func (Go.Fn.yield (1 : Nat)) (Array.mk cols) (Array.mk []), Value.func (Go.Fn.yield (1 : Nat)) (Array.mk rows) (Array.mk [])] (32 : Nat))) T.leaf)) (Option.some (AObj.cells [Value.string n, Value.int IntKind.i64 m, Value.func (Go.Fn.yield (1 : Nat)) (Array.mk cols) (Array.mk []), Value.func (Go.Fn.yield (1 : Nat)) (Array.mk rows) (Array.mk [])] (32 : Nat))) (T.node (T.node T.leaf (Option.some (AObj.cells [Value.int IntKind.i64 wh, Value.int IntKind.i64 ti, Value.int IntKind.i64 dr] (3 : Nat))) T.leaf) (Option.some (AObj.map [(Value.string n, Value.bool Bool.true, (0 : Nat))] (1 : Nat))) T.leaf)) (6 : Nat))) (K (Value.tuple (Array.mk [Value.int IntKind.i64 (blW sd (4 : Int) wh dr (↑(List.length rows) : Int)), Value.int IntKind.i64 (0 : Int)])) (AH.mk (T.node (T.node (T.node T.leaf (Option.some (AObj.cells [Value.string n, Value.int IntKind.i64 m, Value.func (Go.Fn.yield (1 : Nat)) (Array.mk cols) (Array.mk []), Value.func (Go.Fn.yield (1 : Nat)) (Array.mk rows) (Array.mk [])] (32 : Nat))) T.leaf) (Option.some (AObj.cells [Value.string n, Value.int IntKind.i64 m, Value.func (Go.Fn.yield (1 : Nat)) (Array.mk cols) (Array.mk []), Value.func (Go.Fn.yield (1 : Nat)) (Array.mk rows) (Array.mk [])] (32 : Nat))) (T.node T.leaf (Option.some (AObj.cells [Value.string n, Value.int IntKind.i64 m, Value.func (Go.Fn.yield (1 : Nat)) (Array.mk cols) (Array.mk []), Value.func (Go.Fn.yield (1 : Nat)) (Array.mk rows) (Array.mk [])] (32 : Nat))) T.leaf)) (Option.some (AObj.cells [Value.string n, Value.int IntKind.i64 m, Value.func (Go.Fn.yield (1 : Nat)) (Array.mk cols) (Array.mk []), Value.func (Go.Fn.yield (1 : Nat)) (Array.mk rows) (Array.mk [])] (32 : Nat))) (T.node (T.node T.leaf (Option.some (AObj.cells [Value.int IntKind.i64 wh, Value.int IntKind.i64 ti, Value.int IntKind.i64 dr] (3 : Nat))) T.leaf) (Option.some (AObj.map [(Value.string n, Value.bool Bool.true, (0 : Nat))] (1 : Nat))) T.leaf)) (6 : Nat)))))))))))) := by kernel_rfl
def tup (r e : Int) : Value := .tuple ⟨[.int .i64 r, .int .i64 e]⟩
def inW (x : Int) : Bool := !decide (x < 0) && !decide (1000000000000 < x)
def rwN (m : Int) (rs : List (List SB)) (sd wh ti dr : Int) : Int := bif decide (m = 1) then (IntKind.i64.wrap (wh + ti)).tmod rs.length else blW sd 4 wh dr rs.length
def rwR (n : SB) (m : Int) (cs : List SB) (rs : List (List SB)) (sd wh ti dr : Int) : Value :=
  bif nameB n then (bif decide (fdF m cs rs = 0) then (bif inW wh && inW ti && inW dr then tup (rwN m rs sd wh ti dr) 0 else tup 0 9) else tup 0 (fdF m cs rs)) else tup 0 8
theorem HF_tup (r e : Int) : HF (tup r e) := .tuple (HF.cons (HFi _ _) (HF.cons (HFi _ _) HF.nil))
theorem fdF_rows {m : Int} {cs : List SB} {rs : List (List SB)} (h : fdF m cs rs = 0) : (m = 1 ∨ m = 2) ∧ 1 ≤ rs.length ∧ rs.length ≤ 10000 := by
  unfold fdF at h
  cases h1 : decide (m = 1) || decide (m = 2) with
  | false => rw [h1] at h; cases h
  | true =>
    rw [h1] at h
    simp only [cond_true] at h
    cases h2 : decide (cs.length = 0) || decide (rs.length = 0) with
    | true => rw [h2] at h; cases h
    | false =>
      rw [h2] at h
      simp only [cond_false] at h
      cases h3 : decide (20 < cs.length) || decide (10000 < rs.length) with
      | true => rw [h3] at h; cases h
      | false =>
        simp at h1 h2 h3
        exact ⟨h1, by have := h2.2; rcases rs with _ | ⟨x, l⟩ <;> simp at *, h3.2⟩
theorem SpT {p q : Prop} : Sp true p q = p := rfl
theorem SpF {p q : Prop} : Sp false p q = q := rfl
theorem row_walk (n : SB) (m : Int) (cs : List SB) (rs : List (List SB)) (sd wh ti dr : Int) (hn : n.size < 9223372036854775808) (hb : ∀ s ∈ cs, s.size < 9223372036854775808) :
    Walk env Proofs.Tryz.f11 [fdv n m (sv cs) (rv rs), .int .i64 sd, .int .i64 wh, .int .i64 ti, .int .i64 dr] (rwR n m cs rs sd wh ti dr) := by
  refine sxFn_frz XR_ok (d := 4) ((jRow_nf _ n m _ _ sd wh ti dr).mpr ?_)
  rw [unS_sv, unR_rv]
  refine ⟨hn, ?_⟩
  unfold rwR rwN inW
  cases h1 : nameB n with
  | false => exact Frz.same (HF_tup _ _)
  | true =>
    simp only [Bool.not_true, SpF, cond_true]
    refine ⟨⟨cs, rs, rfl, rfl, hb⟩, ?_⟩
    cases h2 : decide (fdF m cs rs = 0) with
    | false => exact Frz.same (HF_tup _ _)
    | true =>
      obtain ⟨hm, hr1, hr2⟩ := fdF_rows (of_decide_eq_true h2)
      have hl : ((rv rs).length : Int) = rs.length := by rw [rv_len]
      simp only [Bool.not_true, Bool.not_false, SpF, SpT, cond_true, hl]
      have hz : (rs.length : Int) ≠ 0 := by omega
      cases h3 : decide (wh < 0) <;> cases h4 : decide (1000000000000 < wh) <;> cases h5 : decide (ti < 0) <;> cases h6 : decide (1000000000000 < ti) <;> cases h7 : decide (dr < 0) <;> cases h8 : decide (1000000000000 < dr) <;> simp only [Bool.not_true, Bool.not_false, SpF, SpT, cond_true, cond_false, Bool.and_true, Bool.and_false, Bool.true_and, Bool.false_and] <;> first
        | exact Frz.same (HF_tup _ _)
        | skip
      cases h9 : decide (m = 1) with
      | true => exact ⟨hz, Frz.same (HF_tup _ _)⟩
      | false => exact Frz.same (HF_tup _ _)
def rwA (n : SB) (m : Int) (cs : List SB) (rs : List (List SB)) (sd wh ti dr : Int) : Int :=
  bif nameB n then (bif decide (fdF m cs rs = 0) then (bif inW wh && inW ti && inW dr then rwN m rs sd wh ti dr else 0) else 0) else 0
def rwE (n : SB) (m : Int) (cs : List SB) (rs : List (List SB)) (wh ti dr : Int) : Int :=
  bif nameB n then (bif decide (fdF m cs rs = 0) then (bif inW wh && inW ti && inW dr then 0 else 9) else fdF m cs rs) else 8
theorem rwR_eq (n : SB) (m : Int) (cs : List SB) (rs : List (List SB)) (sd wh ti dr : Int) : rwR n m cs rs sd wh ti dr = tup (rwA n m cs rs sd wh ti dr) (rwE n m cs rs wh ti dr) := by
  unfold rwR rwA rwE
  cases nameB n <;> cases decide (fdF m cs rs = 0) <;> cases (inW wh && inW ti && inW dr) <;> rfl
def rwX : List Value → Option Value
  | [.agg ⟨[.string n, .int .i64 m, .func (.yield 1) ⟨a⟩ ⟨[]⟩, .func (.yield 1) ⟨b⟩ ⟨[]⟩]⟩, .int .i64 sd, .int .i64 wh, .int .i64 ti, .int .i64 dr] => some (.tuple ⟨[.int .i64 (rwA n m (unS a) (unR b) sd wh ti dr), .int .i64 (rwE n m (unS a) (unR b) wh ti dr)]⟩)
  | _ => none
def rwPre : List Value → Option Prop
  | [.agg ⟨[.string n, .int .i64 m, .func (.yield 1) ⟨a⟩ ⟨[]⟩, .func (.yield 1) ⟨b⟩ ⟨[]⟩]⟩, .int .i64 sd, .int .i64 wh, .int .i64 ti, .int .i64 dr] => some (n.size < 9223372036854775808 ∧ ∃ (cs : List SB) (rs : List (List SB)), a = sv cs ∧ b = rv rs ∧ ∀ s ∈ cs, s.size < 9223372036854775808)
  | _ => none
theorem row_tab : ∀ args A p v A', pureR rwPre rwX args A = some (p, v, A') → PH p → CallAt env 11 args A v A' := walk_tab env_ok env_gl (fn := Proofs.Tryz.f11) rfl fun args v h hp => by
  unfold rwX at h
  split at h
  · simp only [Option.some.injEq] at h
    subst h
    obtain ⟨hn, cs, rs, rfl, rfl, hb⟩ := hp
    refine ⟨HF.cons (HF_fd _ _ cs rs) (HF.cons (HFi _ _) (HF.cons (HFi _ _) (HF.cons (HFi _ _) (HF.cons (HFi _ _) HF.nil)))), ?_⟩
    rw [unS_sv, unR_rv]
    rename_i n m sd wh ti dr
    have := row_walk n m cs rs sd wh ti dr hn hb
    rw [rwR_eq] at this
    exact this
  · cases h
end
end Go.T9
