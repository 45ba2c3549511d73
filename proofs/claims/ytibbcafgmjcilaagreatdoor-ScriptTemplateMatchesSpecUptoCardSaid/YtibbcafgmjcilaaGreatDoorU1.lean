/- A part of the proof. -/
import Derived.Test.YtibbcafgmjcilaaGreatDoorY0
import Derived.Test.YtibbcafgmjcilaaGreatDoorF
import Derived.KernelRfl
set_option maxRecDepth 1000000
set_option linter.unusedVariables false
set_option linter.unusedSimpArgs false
namespace Go.T9
open Go Go.AM
noncomputable section
def lB (c : Int) : Bool := (decide (97 ≤ c) && decide (c ≤ 122)) || (decide (65 ≤ c) && decide (c ≤ 90))
def dB (c : Int) : Bool := decide (48 ≤ c) && decide (c ≤ 57)
def wB (c : Int) : Bool := (lB c || dB c) || (decide (c = 95) || decide (c = 45))
def XJ0 : SX := ⟨env, [], noEl, fun _ => .unroll 0⟩
theorem XJ0_ok : XJ0.Ok := ⟨env_ok, env_sym, env_gl, .nil⟩
def jLt (K : KV) (c : Int) : Prop := sxFn XJ0 1 Proofs.Tryz.f50 [.int .u8 c] K
def jIn (K : KV) (c : Int) : Prop := sxFn XJ0 3 Proofs.Tryz.f49 [.int .u8 c] K
end
end Go.T9
set_option maxRecDepth 1000000
set_option linter.unusedVariables false
set_option linter.unusedSimpArgs false
namespace Go.T9
open Go Go.AM
noncomputable section
theorem jLt_nf (K : KV) (c : Int) : jLt K c = (Sp (decide ((97 : Int) ≤ c)) (Sp (decide (c ≤ (122 : Int))) (K (Value.bool Bool.true) (AH.mk T.leaf (0 : Nat))) (Sp (decide ((65 : Int) ≤ c)) (K (Value.bool (decide (c ≤ (90 : Int)))) (AH.mk T.leaf (0 : Nat))) (K (Value.bool Bool.false) (AH.mk T.leaf (0 : Nat))))) (Sp (decide ((65 : Int) ≤ c)) (K (Value.bool (decide (c ≤ (90 : Int)))) (AH.mk T.leaf (0 : Nat))) (K (Value.bool Bool.false) (AH.mk T.leaf (0 : Nat))))) := by kernel_rfl
theorem lt_walk (c : Int) : Walk env Proofs.Tryz.f50 [.int .u8 c] (.bool (lB c)) := by
  refine sxFn_frz XJ0_ok (d := 1) ((jLt_nf _ c).mpr ?_)
  unfold lB
  cases decide (97 ≤ c) <;> cases decide (c ≤ 122) <;> cases decide (65 ≤ c) <;> cases decide (c ≤ 90) <;> exact Frz.same (HFb _)
def lbX : List Value → Option Value
  | [.int .u8 c] => some (.bool (lB c))
  | _ => none
theorem lt_con : Con env 50 (pureX lbX) := con_pure env_ok env_gl (fn := Proofs.Tryz.f50) rfl fun args v h => by
  unfold lbX at h
  split at h
  · simp only [Option.some.injEq] at h
    subst h
    exact ⟨HF.cons (.scal rfl) HF.nil, lt_walk _⟩
  · cases h
def tabJ1 : Tab := [(50, pureR (fun _ => none) lbX)]
theorem tabJ1_ok : TabOk env tabJ1 := .cons (con_tab lt_con) .nil
def XJ1 : SX := ⟨env, tabJ1, noEl, fun _ => .unroll 0⟩
theorem XJ1_ok : XJ1.Ok := ⟨env_ok, env_sym, env_gl, tabJ1_ok⟩
def jIn1 (K : KV) (c : Int) : Prop := sxFn XJ1 3 Proofs.Tryz.f49 [.int .u8 c] K
end
end Go.T9
set_option maxRecDepth 1000000
set_option linter.unusedVariables false
set_option linter.unusedSimpArgs false
namespace Go.T9
open Go Go.AM
noncomputable section
theorem jIn1_nf (K : KV) (c : Int) : jIn1 K c = (Sp (lB c) (K (Value.bool Bool.true) (AH.mk T.leaf (0 : Nat))) (Sp (decide ((48 : Int) ≤ c)) (Sp (decide (c ≤ (57 : Int))) (K (Value.bool Bool.true) (AH.mk T.leaf (0 : Nat))) (Sp (decide (c = (95 : Int))) (K (Value.bool Bool.true) (AH.mk T.leaf (0 : Nat))) (K (Value.bool (decide (c = (45 : Int)))) (AH.mk T.leaf (0 : Nat))))) (Sp (decide (c = (95 : Int))) (K (Value.bool Bool.true) (AH.mk T.leaf (0 : Nat))) (K (Value.bool (decide (c = (45 : Int)))) (AH.mk T.leaf (0 : Nat)))))) := by kernel_rfl
theorem in_walk (c : Int) : Walk env Proofs.Tryz.f49 [.int .u8 c] (.bool (wB c)) := by
  refine sxFn_frz XJ1_ok (d := 3) ((jIn1_nf _ c).mpr ?_)
  unfold wB dB
  cases lB c <;> cases decide (48 ≤ c) <;> cases decide (c ≤ 57) <;> cases decide (c = 95) <;> cases decide (c = 45) <;> exact Frz.same (HFb _)
def wbX : List Value → Option Value
  | [.int .u8 c] => some (.bool (wB c))
  | _ => none
theorem in_con : Con env 49 (pureX wbX) := con_pure env_ok env_gl (fn := Proofs.Tryz.f49) rfl fun args v h => by
  unfold wbX at h
  split at h
  · simp only [Option.some.injEq] at h
    subst h
    exact ⟨HF.cons (.scal rfl) HF.nil, in_walk _⟩
  · cases h
def tabJ2 : Tab := [(50, pureR (fun _ => none) lbX), (49, pureR (fun _ => none) wbX)]
theorem tabJ2_ok : TabOk env tabJ2 := .cons (con_tab lt_con) (.cons (con_tab in_con) .nil)
def XJ : SX := ⟨env, tabJ2, noEl, fun _ => .auto [] [0, 5, 6]⟩
theorem XJ_ok : XJ.Ok := ⟨env_ok, env_sym, env_gl, tabJ2_ok⟩
def frNm (s : ByteArray) (i : Nat) : T Value := (.node (.node .leaf none (.node .leaf (some (.int .i64 s.size)) .leaf)) (some (.string s)) (.node .leaf none (.node .leaf (some (.int .i64 i)) .leaf)))
def jNm (Q : Value → Prop) (QA : KV) (s : ByteArray) : Prop := sxFn XJ 1 Proofs.Tryz.f25 [.string s] (leafK Q QA)
def jNm1 (Q : Value → Prop) (QA : KV) (again : KF) (s : ByteArray) (i : Nat) : Prop := sxStepA XJ 1 Proofs.Tryz.f25 [1, 0, 1, 0] (leafK Q QA) [] [0, 5, 6] again (frNm s i) ⟨.leaf, 0⟩
def nameB (s : ByteArray) : Bool := s.data.toList.all (fun b => wB b.toNat) && (decide (1 ≤ s.size) && decide (s.size ≤ 50) && lB (byteAt s 0))
end
end Go.T9
set_option maxRecDepth 1000000
set_option linter.unusedVariables false
set_option linter.unusedSimpArgs false
namespace Go.T9
open Go Go.AM
noncomputable section
theorem jNm_nf (Q : Go.Value → Prop) (QA : KV) (s : ByteArray) : jNm Q QA s = (LAt XJ (1 : Nat) (Go.Func.ntmps Go.Proofs.Tryz.f25) (bodyOf Go.Proofs.Tryz.f25) [(1 : Nat), (0 : Nat), (1 : Nat), (0 : Nat)] (finK (SX.E XJ) (Array.toList (Go.Func.results Go.Proofs.Tryz.f25)) (leafK Q QA)) (T.node (T.node T.leaf Option.none (T.node T.leaf (Option.some (Value.int IntKind.i64 (↑(ByteArray.size s) : Int))) T.leaf)) (Option.some (Value.string s)) (T.node T.leaf Option.none (T.node T.leaf (Option.some (Value.int IntKind.i64 (0 : Int))) T.leaf))) (AH.mk T.leaf (0 : Nat))) := by kernel_rfl
theorem jNm1_nf (Q : Go.Value → Prop) (QA : KV) (again : KF) (s : ByteArray) (i : Nat) : jNm1 Q QA again s i = (Sp (decide ((↑i : Int) < (↑(ByteArray.size s) : Int))) (((0 : Int) ≤ (↑i : Int) ∧ (↑i : Int) < (↑(ByteArray.size s) : Int)) ∧ Sp (!wB (byteAt s (↑i : Int))) (Q (Value.bool Bool.false)) (again (T.node (T.node T.leaf Option.none (T.node T.leaf (Option.some (Value.int IntKind.i64 (↑(ByteArray.size s) : Int))) T.leaf)) (Option.some (Value.string s)) (T.node T.leaf Option.none (T.node T.leaf (Option.some (Value.int IntKind.i64 (IntKind.wrap IntKind.i64 ((↑i : Int) + (1 : Int))))) T.leaf))) (AH.mk T.leaf (0 : Nat)))) (Sp (!eqL (Array.toList (ByteArray.data s)) (Array.toList (ByteArray.data (ByteArray.mk #[])))) (Sp (decide ((↑(ByteArray.size s) : Int) ≤ (50 : Int))) (((0 : Int) ≤ (0 : Int) ∧ (0 : Int) < (↑(ByteArray.size s) : Int)) ∧ Q (Value.bool (lB (byteAt s (0 : Int))))) (Q (Value.bool Bool.false))) (Q (Value.bool Bool.false)))) := by kernel_rfl
theorem byteAt_in {s : ByteArray} {i : Nat} (h : i < s.data.toList.length) : byteAt s (i : Int) = (s.data.toList[i].toNat : Int) := by
  simp only [byteAt, Int.toNat_natCast, nth_eq, List.getElem?_eq_getElem h]
theorem nm_loop (Q : Value → Prop) (QA : KV) (s : ByteArray) (hs : s.size < 9223372036854775808) (hQ : Q (.bool (nameB s))) :
    LAt XJ 1 (Func.ntmps Proofs.Tryz.f25) (bodyOf Proofs.Tryz.f25) [1, 0, 1, 0] (finK XJ.E (Proofs.Tryz.f25.results).toList (leafK Q QA)) (frNm s 0) ⟨.leaf, 0⟩ := by
  have hsz : s.data.toList.length = s.size := by simp
  refine LAt.stepA XJ_ok [] [0, 5, 6] (by kernel_rfl) (fun k F A => ∃ i : Nat, F = frNm s i ∧ A = ⟨.leaf, 0⟩ ∧ i + k = s.size ∧ s.data.toList.all (fun b => wB b.toNat) = (s.data.toList.drop i).all (fun b => wB b.toNat)) ?_ (k := s.size) ⟨0, rfl, rfl, by simp, by simp⟩
  rintro k F A ⟨i, rfl, rfl, hk, hall⟩
  refine (jNm1_nf _ _ _ s i).mpr ?_
  refine Sp.intro (fun c => ?_) (fun c => ?_)
  · have hlt : i < s.size := by simpa using c
    have hl : i < s.data.toList.length := by omega
    have hw : IntKind.i64.wrap ((i : Int) + 1) = ((i + 1 : Nat) : Int) := by rw [i64_in (by omega) (by omega)]; rfl
    rw [List.drop_eq_getElem_cons hl, List.all_cons] at hall
    simp only [byteAt_in hl, hw]
    refine ⟨by omega, Sp.intro (fun h => ?_) (fun h => ⟨k - 1, by omega, i + 1, rfl, by first | trivial | rfl, by omega, ?_⟩)⟩
    · have h0 : wB (s.data.toList[i].toNat : Int) = false := by simpa using h
      have : nameB s = false := by unfold nameB; rw [hall, h0]; rfl
      rw [this] at hQ; exact hQ
    · have h0 : wB (s.data.toList[i].toNat : Int) = true := by simpa using h
      rw [hall, h0]; rfl
  · have hn : s.data.toList.drop i = [] := List.drop_eq_nil_of_le (by simp at c; omega)
    rw [hn] at hall
    have hall : s.data.toList.all (fun b => wB b.toNat) = true := hall
    refine Sp.intro (fun h => Sp.intro (fun h2 => ?_) (fun h2 => ?_)) (fun h => ?_)
    · have h1 : 1 ≤ s.size := by
        rcases hp : s.data.toList with _ | ⟨x, l⟩
        · rw [hp] at h; simp [eqL] at h
        · rw [hp] at hsz; simp at hsz; omega
      have e : nameB s = lB (byteAt s 0) := by unfold nameB; rw [hall]; simp [h1, show s.size ≤ 50 by simp at h2; omega]
      rw [e] at hQ
      exact ⟨by omega, hQ⟩
    · have e : nameB s = false := by unfold nameB; simp [show ¬ s.size ≤ 50 by simp at h2; omega]
      rw [e] at hQ; exact hQ
    · have e : nameB s = false := by
        rcases hp : s.data.toList with _ | ⟨x, l⟩
        · unfold nameB; rw [hp] at hsz; simp [show s.size = 0 by simp at hsz; omega]
        · rw [hp] at h; simp [eqL] at h
      rw [e] at hQ; exact hQ
theorem nm_walk (s : ByteArray) (hs : s.size < 9223372036854775808) : Walk env Proofs.Tryz.f25 [.string s] (.bool (nameB s)) := by
  refine sxFn_plain XJ_ok (d := 1) (HFb _) ((jNm_nf _ _ s).mpr ?_)
  exact nm_loop _ _ s hs rfl
def nmX : List Value → Option Value
  | [.string s] => some (.bool (nameB s))
  | _ => none
def nmPre : List Value → Option Prop
  | [.string s] => some (s.size < 9223372036854775808)
  | _ => none
theorem nm_tab : ∀ args A p v A', pureR nmPre nmX args A = some (p, v, A') → PH p → CallAt env 25 args A v A' := walk_tab env_ok env_gl (fn := Proofs.Tryz.f25) rfl fun args v h hp => by
  unfold nmX at h
  split at h
  · simp only [Option.some.injEq] at h
    subst h
    exact ⟨HF.cons (.scal rfl) HF.nil, nm_walk _ hp⟩
  · cases h
end
end Go.T9
set_option maxRecDepth 1000000
set_option linter.unusedVariables false
set_option linter.unusedSimpArgs false
namespace Go.T9
open Go Go.AM Go.MK
noncomputable section
abbrev SB := ByteArray
def fdv (n : SB) (m : Int) (cols : List Value) (rows : List Value) : Value := .agg ⟨[.string n, .int .i64 m, dat 1 cols, dat 1 rows]⟩
def tabJ4 : Tab := [(25, pureR nmPre nmX)]
abbrev MB := List (List UInt8 × Bool)
abbrev EntsB := List (Value × Value × Nat)
def vS : Value → List UInt8
  | .string s => s.data.toList
  | _ => []
def kS (l : List UInt8) : Value := .string (mkBytes l)
def vBo : Value → Bool
  | .bool b => b
  | _ => false
def enB (m : MB) : EntsB := ents kS Value.bool m
def mgB (es : EntsB) (k : Value) : Bool := (aget (inv vS vBo es) (vS k)).getD false
def mhB (es : EntsB) (k : Value) : Bool := (aget (inv vS vBo es) (vS k)).isSome
def msB (es : EntsB) (k v : Value) : EntsB := ents kS Value.bool (aset (inv vS vBo es) (vS k) (vBo v))
def mnB (es : EntsB) (k v : Value) : Nat := (aset (inv vS vBo es) (vS k) (vBo v)).length
def rowAt (els : List Value) (i : Int) : List Value := match nth els i.toNat with | some (.func _ ⟨l⟩ _) => l | _ => []
def elF : El := { El.of (fun sz t els i => bif Nat.beq t 65 then some (dat 1 (rowAt els i)) else some (.string (strAt els i))) with ml := fun _ es k => some (.bool (mgB es k), mhB es k), mu := fun _ es _ k v => some (msB es k v, mnB es k v) }
def XF : SX := ⟨env, tabJ4, elF, fun k => bif Nat.beq k 9 then .autoN [] [] [32] [1, 3, 43, 44, 45] else bif Nat.beq k 18 then .autoN [] [] [32] [1, 61, 62, 63] else .autoN [] [] [32] [1, 61, 62, 63, 73, 74, 75]⟩
def fdC (n : SB) (m : Int) (cols rows : List Value) : AObj := .cells [.string n, .int .i64 m, dat 1 cols, dat 1 rows] 32
def hF0 (n : SB) (m : Int) (cols rows : List Value) : AH := ⟨.node .leaf (some (fdC n m cols rows)) .leaf, 1⟩
def hF1 (n : SB) (m : Int) (cols rows : List Value) (es : EntsB) (c : Nat) : AH := ⟨.node (.node .leaf (some (.map es c)) .leaf) (some (fdC n m cols rows)) .leaf, 2⟩
def frF1 (cols : List Value) (i : Nat) : T Value := (.node (.node (.node .leaf (some (.map (some 1))) (.node .leaf none (.node (.node .leaf (some (dat 1 cols)) .leaf) none .leaf))) (some (.pointer (some ⟨0, 0, none⟩))) (.node .leaf none (.node .leaf none (.node (.node .leaf (some (.int .i64 i)) .leaf) none .leaf)))) none (.node (.node .leaf none (.node .leaf none (.node (.node .leaf (some (.int .i64 cols.length)) .leaf) none .leaf))) none .leaf))
def frF2 (rows : List Value) (i : Nat) : T Value := (.node (.node (.node (.node (.node (.node (.node .leaf (some (.int .i64 i)) .leaf) none .leaf) none .leaf) none .leaf) none .leaf) (some (.pointer (some ⟨0, 0, none⟩))) (.node .leaf none (.node .leaf none (.node .leaf none (.node .leaf (some (dat 1 rows)) .leaf))))) none (.node .leaf none (.node .leaf none (.node .leaf none (.node .leaf none (.node .leaf (some (.int .i64 rows.length)) .leaf))))))
def frF3 (rows : List Value) (i : Nat) (r : List Value) (j : Nat) : T Value := (.node (.node (.node (.node (.node (.node (.node .leaf (some (.int .i64 i)) .leaf) none .leaf) none .leaf) none .leaf) none (.node .leaf none (.node (.node (.node .leaf (some (.int .i64 j)) .leaf) none .leaf) none .leaf))) (some (.pointer (some ⟨0, 0, none⟩))) (.node (.node .leaf none (.node (.node (.node .leaf (some (dat 1 r)) .leaf) none .leaf) none .leaf)) none (.node .leaf none (.node .leaf none (.node .leaf (some (dat 1 rows)) .leaf))))) none (.node .leaf none (.node (.node .leaf none (.node (.node (.node .leaf (some (.int .i64 r.length)) .leaf) none .leaf) none .leaf)) none (.node .leaf none (.node .leaf none (.node .leaf (some (.int .i64 rows.length)) .leaf))))))
def jCf (K : KV) (n : SB) (m : Int) (cols rows : List Value) : Prop := sxFnZ XF 1 Proofs.Tryz.f26 [fdv n m cols rows] ⟨.leaf, 0⟩ K
def kFinF (K : KV) : KX := finK XF.E (Proofs.Tryz.f26.results).toList K
def jCf1 (K : KV) (again : KF) (n : SB) (m : Int) (cols rows : List Value) (es : EntsB) (c i : Nat) : Prop := sxStepZ XF 1 (Func.ntmps Proofs.Tryz.f26) ⟨.leaf, 0⟩ (bodyOf Proofs.Tryz.f26) [1, 1, 1, 0, 1, 0] (kFinF K) [] [] [32] [1, 3, 43, 44, 45] again (frF1 cols i) (hF1 n m cols rows es c)
def cF2 : Code := loopBody (subC [1, 1, 1, 1, 0, 1, 0] (bodyOf Proofs.Tryz.f26))
def kF2 (K : KV) (again : KF) : KX := stepZ XF 1 (Func.ntmps Proofs.Tryz.f26) ⟨.leaf, 0⟩ (bodyOf Proofs.Tryz.f26) [1, 1, 1, 1, 0, 1, 0] (kFinF K) [] [] [32] [1, 61, 62, 63] again
def jCf2 (K : KV) (again : KF) (n : SB) (m : Int) (cols rows : List Value) (i : Nat) : Prop := sxStepZ XF 1 (Func.ntmps Proofs.Tryz.f26) ⟨.leaf, 0⟩ (bodyOf Proofs.Tryz.f26) [1, 1, 1, 1, 0, 1, 0] (kFinF K) [] [] [32] [1, 61, 62, 63] again (frF2 rows i) (hF0 n m cols rows)
def jCf3 (K : KV) (again0 again : KF) (n : SB) (m : Int) (cols rows : List Value) (i : Nat) (r : List Value) (j : Nat) : Prop := sxStepZ XF 1 (Func.ntmps Proofs.Tryz.f26) ⟨.leaf, 0⟩ cF2 [1, 1, 0, 0, 1, 1, 1, 0] (kF2 K again0) [] [] [32] [1, 61, 62, 63, 73, 74, 75] again (frF3 rows i r j) (hF0 n m cols rows)
end
end Go.T9
set_option maxRecDepth 1000000
set_option linter.unusedVariables false
set_option linter.unusedSimpArgs false
set_option maxHeartbeats 4000000
namespace Go.T9
open Go Go.AM Go.MK
noncomputable section
def sv (l : List SB) : List Value := l.map Value.string
def rv (l : List (List SB)) : List Value := l.map fun r => dat 1 (sv r)
def txF : List SB → Int
  | [] => 0
  | s :: l => bif decide ((1000000 : Int) < s.size) then 3 else txF l
def rowF (n : Nat) : List (List SB) → Int
  | [] => 0
  | r :: l => bif decide (r.length = n) then (bif decide (txF r = 0) then rowF n l else 3) else 2
def colF : List (List UInt8) → List SB → Int
  | _, [] => 0
  | seen, c :: l => bif nameB c then (bif decide (c.data.toList ∈ seen) then 5 else colF (seen ++ [c.data.toList]) l) else 8
end
end Go.T9
set_option maxRecDepth 1000000
set_option linter.unusedVariables false
set_option linter.unusedSimpArgs false
set_option maxHeartbeats 4000000
namespace Go.T9
open Go Go.AM Go.MK
noncomputable section
theorem eqL_dec (a b : List UInt8) : eqL a b = decide (a = b) := by
  cases h : eqL a b with
  | true => simp [(eqL_iff a b).1 h]
  | false =>
    by_cases e : a = b
    · rw [(eqL_iff a b).2 e] at h; cases h
    · simp [e]
theorem koS : KeyOk env 47 9 4 kS (.bool false) := ⟨by kernel_rfl, fun _ => rfl, fun emp k => by cases emp <;> kernel_rfl, ⟨.string, by kernel_rfl, .inl fun a b => by
  show some (eqL a b) = _
  rw [eqL_dec]⟩, fun k => by simp [kS, Instr.sameBits, bytes_beq, (eqL_iff _ _).2 rfl], ⟨_, rfl, rfl, rfl⟩⟩
theorem invB (m : MB) : inv vS vBo (enB m) = m := inv_ents (fun _ => rfl) (fun _ => rfl) m
theorem lookB (m : MB) (s : SB) : lookE env 47 (enB m) (.string s) = some (.bool ((aget m s.data.toList).getD false), mhB (enB m) (.string s)) := by
  refine (look_ents koS Value.bool s.data.toList m).trans ?_
  unfold mhB
  rw [invB]
  show _ = some (Value.bool ((aget m s.data.toList).getD false), (aget m s.data.toList).isSome)
  cases aget m s.data.toList <;> rfl
end
end Go.T9
set_option maxRecDepth 1000000
set_option linter.unusedVariables false
set_option linter.unusedSimpArgs false
set_option maxHeartbeats 4000000
namespace Go.T9
open Go Go.AM Go.MK
noncomputable section
def seenF (cs : List SB) (i : Nat) : List (List UInt8) := (cs.take i).map fun s => s.data.toList
end
end Go.T9
set_option maxRecDepth 1000000
set_option linter.unusedVariables false
set_option linter.unusedSimpArgs false
set_option maxHeartbeats 4000000
namespace Go.T9
open Go Go.AM Go.MK
noncomputable section
def fdF (m : Int) (cs : List SB) (rs : List (List SB)) : Int :=
  bif decide (m = 1) || decide (m = 2) then (bif decide (cs.length = 0) || decide (rs.length = 0) then 13 else bif decide (20 < cs.length) || decide (10000 < rs.length) then 3 else bif decide (colF [] cs = 0) then rowF cs.length rs else colF [] cs) else 7
end
end Go.T9
set_option maxRecDepth 1000000
set_option linter.unusedVariables false
set_option linter.unusedSimpArgs false
namespace Go.T9
open Go Go.AM Go.MK
noncomputable section
def unS (l : List Value) : List SB := l.map fun v => match v with | .string s => s | _ => ByteArray.empty
def unR (l : List Value) : List (List SB) := l.map fun v => match v with | .func _ ⟨r⟩ _ => unS r | _ => []
def cfX : List Value → Option Value
  | [.agg ⟨[.string _, .int .i64 m, .func (.yield 1) ⟨a⟩ ⟨[]⟩, .func (.yield 1) ⟨b⟩ ⟨[]⟩]⟩] => some (.int .i64 (fdF m (unS a) (unR b)))
  | _ => none
def cfPre : List Value → Option Prop
  | [.agg ⟨[.string _, .int .i64 m, .func (.yield 1) ⟨a⟩ ⟨[]⟩, .func (.yield 1) ⟨b⟩ ⟨[]⟩]⟩] => some (∃ (cs : List SB) (rs : List (List SB)), a = sv cs ∧ b = rv rs ∧ ∀ s ∈ cs, s.size < 9223372036854775808)
  | _ => none
end
end Go.T9
set_option maxRecDepth 1000000
set_option linter.unusedVariables false
set_option linter.unusedSimpArgs false
set_option maxHeartbeats 4000000
namespace Go.T9
open Go Go.AM
noncomputable section
def tbl0 : List (FuncId × ExtF) := []
def shrU (x : Int) (n : Nat) : Int := x.fdiv (2 ^ n)
def xorU (x y : Int) : Int := IntKind.u64.wrap (BitVec.ofInt IntKind.u64.bits x ^^^ BitVec.ofInt IntKind.u64.bits y).toNat
def mulU (x y : Int) : Int := IntKind.u64.wrap (x * y)
def mixF (x : Int) : Int :=
  let x := xorU x (shrU x 30)
  let x := mulU x 13787848793156543929
  let x := xorU x (shrU x 27)
  let x := mulU x 10723151780598845931
  xorU x (shrU x 31)
def mixX : List Value → Option Value
  | [.int .u64 x] => some (.int .u64 (mixF x))
  | _ => none
def tblM : List (FuncId × ExtF) := [(95, pureX mixX)]
def stepF (x k : Int) : Int := mixF (IntKind.u64.wrap (x + IntKind.u64.wrap (11400714819323198485 * IntKind.u64.wrap (IntKind.i64.wrap (k + 1)))))
def drawF (s p w n : Int) : Int := IntKind.i64.wrap (shrU (stepF (stepF (stepF (IntKind.u64.wrap s) p) w) n) 32)
def drawX : List Value → Option Value
  | [.int .i64 s, .int .i64 p, .int .i64 w, .int .i64 n] => some (.int .i64 (drawF s p w n))
  | _ => none
def tblD : List (FuncId × ExtF) := [(60, pureX drawX)]
def blV (s p w n m : Int) : Int := IntKind.i64.wrap (shrU (IntKind.u64.wrap (IntKind.u64.wrap (drawF s p w n) * IntKind.u64.wrap m)) 32)
end
end Go.T9
set_option maxRecDepth 1000000
set_option linter.unusedVariables false
set_option linter.unusedSimpArgs false
set_option maxHeartbeats 4000000
namespace Go.T9
open Go Go.AM Go.MK
noncomputable section
theorem bl_some (s p w n m : Int) : ∃ y, y = blV s p w n m := ⟨_, rfl⟩
def blW (s p w n m : Int) : Int := Classical.choose (bl_some s p w n m)
def blX : List Value → Option Value
  | [.int .i64 s, .int .i64 p, .int .i64 w, .int .i64 n, .int .i64 m] => some (.int .i64 (blW s p w n m))
  | _ => none
def tabR : Tab := [(25, pureR nmPre nmX), (26, pureR cfPre cfX), (33, pureR (fun _ => none) blX)]
def XR : SX := ⟨env, tabR, noEl, fun _ => .unroll 4⟩
def jRow (K : KV) (n : SB) (m : Int) (cols rows : List Value) (sd wh ti dr : Int) : Prop := sxFn XR 4 Proofs.Tryz.f11 [fdv n m cols rows, .int .i64 sd, .int .i64 wh, .int .i64 ti, .int .i64 dr] K
end
end Go.T9
