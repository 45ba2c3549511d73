/- A part of the proof. -/
import Derived.Test.YtgbjgffiejlooaaGreatDoorY0
import Derived.Test.YtgbjgffiejlooaaGreatDoorF
import Derived.KernelRfl
set_option linter.unusedVariables false
set_option linter.unusedSimpArgs false
set_option maxRecDepth 1000000
namespace Go.T9
open Go Go.AM Go.Proofs.Tryz
noncomputable section
def lB (c : Int) : Bool := (decide (97 ≤ c) && decide (c ≤ 122)) || (decide (65 ≤ c) && decide (c ≤ 90))
def dB (c : Int) : Bool := decide (48 ≤ c) && decide (c ≤ 57)
def wB (c : Int) : Bool := (lB c || dB c) || (decide (c = 95) || decide (c = 45))
def XJ0 : SX := ⟨env, [], noEl, fun _ => .unroll 0⟩
theorem ux : XJ0.Ok := ⟨env_ok, cC, bw, .nil⟩
def jLt (K : KV) (c : Int) : Prop := sxFn XJ0 1 f43 [.int .u8 c] K
theorem jLt_nf (K : KV) (c : Int) : jLt K c = (Sp (decide (97 ≤ c)) (Sp (decide (c ≤ 122)) (K (Vb true) (AH.mk Lf 0)) (Sp (decide (65 ≤ c)) (K (Vb (decide (c ≤ 90))) (AH.mk Lf 0)) (K (Vb false) (AH.mk Lf 0)))) (Sp (decide (65 ≤ c)) (K (Vb (decide (c ≤ 90))) (AH.mk Lf 0)) (K (Vb false) (AH.mk Lf 0)))) := by kernel_rfl
theorem ww (c : Int) : Walk env f43 [.int .u8 c] (.bool (lB c)) := by
 refine bi ux (d := 1) ((jLt_nf _ c).mpr ?_)
 unfold lB
 cases decide (97 ≤ c) <;> cases decide (c ≤ 122) <;> cases decide (65 ≤ c) <;> cases decide (c ≤ 90) <;> exact Frz.same (HFb _)
def lbX : List Value → Option Value
 | [.int .u8 c] => some (.bool (lB c))
 | _ => none
theorem tN : Con env 43 (ck lbX) := dZ env_ok bw (fn := f43) rfl fun args v h => by
 unfold lbX at h
 split at h
 · simp only [osI] at h
   subst h
   exact ⟨HF.cons (.scal rfl) HF.nil, ww _⟩
 · cases h
def tabJ1 : Tab := [(43, ai (fun _ => none) lbX)]
theorem qN : TabOk env tabJ1 := .cons (dK tN) .nil
def XJ1 : SX := ⟨env, tabJ1, noEl, fun _ => .unroll 0⟩
theorem XJ1_ok : XJ1.Ok := ⟨env_ok, cC, bw, qN⟩
def jIn1 (K : KV) (c : Int) : Prop := sxFn XJ1 3 f42 [.int .u8 c] K
theorem xy (K : KV) (c : Int) : jIn1 K c = (Sp (lB c) (K (Vb true) (AH.mk Lf 0)) (Sp (decide (48 ≤ c)) (Sp (decide (c ≤ 57)) (K (Vb true) (AH.mk Lf 0)) (Sp (decide (c = 95)) (K (Vb true) (AH.mk Lf 0)) (K (Vb (decide (c = 45))) (AH.mk Lf 0)))) (Sp (decide (c = 95)) (K (Vb true) (AH.mk Lf 0)) (K (Vb (decide (c = 45))) (AH.mk Lf 0))))) := by kernel_rfl
theorem yo (c : Int) : Walk env f42 [.int .u8 c] (.bool (wB c)) := by
 refine bi XJ1_ok (d := 3) ((xy _ c).mpr ?_)
 unfold wB dB
 cases lB c <;> cases decide (48 ≤ c) <;> cases decide (c ≤ 57) <;> cases decide (c = 95) <;> cases decide (c = 45) <;> exact Frz.same (HFb _)
def wbX : List Value → Option Value
 | [.int .u8 c] => some (.bool (wB c))
 | _ => none
theorem in_con : Con env 42 (ck wbX) := dZ env_ok bw (fn := f42) rfl fun args v h => by
 unfold wbX at h
 split at h
 · simp only [osI] at h
   subst h
   exact ⟨HF.cons (.scal rfl) HF.nil, yo _⟩
 · cases h
def tabJ2 : Tab := [(43, ai (fun _ => none) lbX), (42, ai (fun _ => none) wbX)]
theorem qM : TabOk env tabJ2 := .cons (dK tN) (.cons (dK in_con) .nil)
def XJ : SX := ⟨env, tabJ2, noEl, fun _ => .auto [] [0, 5, 6]⟩
theorem XJ_ok : XJ.Ok := ⟨env_ok, cC, bw, qM⟩
def frNm (s : ByteArray) (i : Nat) : T Value := (Nd (Nd Lf none (Nd Lf (some (.int .i64 s.size)) Lf)) (some (.string s)) (Nd Lf none (Nd Lf (some (.int .i64 i)) Lf)))
def jNm (Q : Value → Prop) (QA : KV) (s : ByteArray) : Prop := sxFn XJ 1 f21 [.string s] (ar Q QA)
def jNm1 (Q : Value → Prop) (QA : KV) (again : KF) (s : ByteArray) (i : Nat) : Prop := bO XJ 1 f21 [1, 0, 1, 0] (ar Q QA) [] [0, 5, 6] again (frNm s i) ⟨.leaf, 0⟩
def az (s : ByteArray) : Bool := s.data.toList.all (fun b => wB b.toNat) && (decide (1 ≤ s.size) && decide (s.size ≤ 50) && lB (ae s 0))
theorem jNm_nf (Q : Value → Prop) (QA : KV) (s : ByteArray) : jNm Q QA s = (LAt XJ 1 f21.ntmps (ac f21) [1, 0, 1, 0] (finK (SX.E XJ) f21.results.toList (ar Q QA)) (Ns (No Lf (Sg (Vi s.size))) (Vs s) (No Lf (Sg (Vi 0)))) (AH.mk Lf 0)) := by kernel_rfl
theorem xj (Q : Value → Prop) (QA : KV) (again : KF) (s : ByteArray) (i : Nat) : jNm1 Q QA again s i = (Sp (decide ((i : Int) < (s.size : Int))) ((0 ≤ (i : Int) ∧ (i : Int) < (s.size : Int)) ∧ Sp (!wB (ae s i)) (Q (Vb false)) (again (Ns (No Lf (Sg (Vi s.size))) (Vs s) (No Lf (Sg (Vi (Wi ((i : Int) + 1)))))) (AH.mk Lf 0))) (Sp (!eqL s.data.toList (ByteArray.mk #[]).data.toList) (Sp (decide ((s.size : Int) ≤ 50)) (((0 : Int) ≤ (0 : Int) ∧ 0 < (s.size : Int)) ∧ Q (Vb (lB (ae s 0)))) (Q (Vb false))) (Q (Vb false)))) := by kernel_rfl
theorem aL {s : ByteArray} {i : Nat} (h : i < s.data.toList.length) : ae s (i : Int) = (s.data.toList[i].toNat : Int) := by
 simp only [ae, Int.toNat_natCast, aD, List.getElem?_eq_getElem h]
theorem wg (Q : Value → Prop) (QA : KV) (s : ByteArray) (hs : s.size < 9223372036854775808) (hQ : Q (.bool (az s))) :
 LAt XJ 1 (Func.ntmps f21) (ac f21) [1, 0, 1, 0] (finK XJ.E (f21.results).toList (ar Q QA)) (frNm s 0) ⟨.leaf, 0⟩ := by
 have hsz : s.data.toList.length = s.size := by simp
 refine LAt.stepA XJ_ok [] [0, 5, 6] (by kernel_rfl) (fun k F A => ∃ i : Nat, F = frNm s i ∧ A = ⟨.leaf, 0⟩ ∧ i + k = s.size ∧ s.data.toList.all (fun b => wB b.toNat) = (s.data.toList.drop i).all (fun b => wB b.toNat)) ?_ (k := s.size) ⟨0, rfl, rfl, by simp, by simp⟩
 rintro k F A ⟨i, rfl, rfl, hk, hall⟩
 refine (xj _ _ _ s i).mpr ?_
 refine Sp.intro (fun c => ?_) (fun c => ?_)
 · have hlt : i < s.size := by simpa using c
   have hl : i < s.data.toList.length := by omega
   have hw := i64s i (by omega)
   rw [List.drop_eq_getElem_cons hl, List.all_cons] at hall
   simp only [aL hl, hw]
   refine ⟨by omega, Sp.intro (fun h => ?_) (fun h => ⟨k - 1, by omega, i + 1, rfl, by first | trivial | rfl, by omega, ?_⟩)⟩
   · have h0 : wB (s.data.toList[i].toNat : Int) = false := by simpa using h
     have : az s = false := by unfold az; rw [hall, h0]; rfl
     rw [this] at hQ; exact hQ
   · have h0 : wB (s.data.toList[i].toNat : Int) = true := by simpa using h
     rw [hall, h0]; rfl
 · have hn : s.data.toList.drop i = [] := List.drop_eq_nil_of_le (by simp at c; omega)
   rw [hn] at hall
   have hall : s.data.toList.all (fun b => wB b.toNat) = true := hall
   refine Sp.intro (fun h => Sp.intro (fun h2 => ?_) (fun h2 => ?_)) (fun h => ?_)
   · have h1 : 1 ≤ s.size := by
      rcases hp : s.data.toList with _ | ⟨x, l⟩
      · rw [hp] at h; simp [eqL] at h
      · rw [hp] at hsz; simp at hsz; omega
     have e : az s = lB (ae s 0) := by unfold az; rw [hall]; simp [h1, show s.size ≤ 50 by simp at h2; omega]
     rw [e] at hQ
     exact ⟨by omega, hQ⟩
   · have e : az s = false := by unfold az; simp [show ¬ s.size ≤ 50 by simp at h2; omega]
     rw [e] at hQ; exact hQ
   · have e : az s = false := by
      rcases hp : s.data.toList with _ | ⟨x, l⟩
      · unfold az; rw [hp] at hsz; simp [show s.size = 0 by simp at hsz; omega]
      · rw [hp] at h; simp [eqL] at h
     rw [e] at hQ; exact hQ
theorem we (s : ByteArray) (hs : s.size < 9223372036854775808) : Walk env f21 [.string s] (.bool (az s)) := by
 refine aK XJ_ok (d := 1) (HFb _) ((jNm_nf _ _ s).mpr ?_)
 exact wg _ _ s hs rfl
def nmX : List Value → Option Value
 | [.string s] => some (.bool (az s))
 | _ => none
def aW : List Value → Option Prop
 | [.string s] => some (s.size < 9223372036854775808)
 | _ => none
theorem ju : ∀ args A p v A', ai aW nmX args A = some (p, v, A') → PH p → ap env 21 args A v A' := aj env_ok bw (fn := f21) rfl fun args v h hp => by
 unfold nmX at h
 split at h
 · simp only [osI] at h
   subst h
   exact ⟨HF.cons (.scal rfl) HF.nil, we _ hp⟩
 · cases h
end
end Go.T9
namespace Go.T9
open Go Go.AM Go.MK Go.Proofs.Tryz
noncomputable section
abbrev SB := ByteArray
def fdv (n : SB) (m : Int) (cols : List Value) (rows : List Value) : Value := .agg ⟨[.string n, .int .i64 m, dat 1 cols, dat 1 rows]⟩
def tabJ4 : Tab := [(21, ai aW nmX)]
theorem qK : TabOk env tabJ4 := .cons ju .nil
abbrev MB := List (List UInt8 × Bool)
abbrev fm := List (Value × Value × Nat)
def vS : Value → List UInt8
 | .string s => s.data.toList
 | _ => []
def kS (l : List UInt8) : Value := .string (aa l)
def vBo : Value → Bool
 | .bool b => b
 | _ => false
def enB (m : MB) : fm := ents kS Value.bool m
def mgB (es : fm) (k : Value) : Bool := (aget (inv vS vBo es) (vS k)).getD false
def mhB (es : fm) (k : Value) : Bool := (aget (inv vS vBo es) (vS k)).isSome
def msB (es : fm) (k v : Value) : fm := ents kS Value.bool (aset (inv vS vBo es) (vS k) (vBo v))
def mnB (es : fm) (k v : Value) : Nat := (aset (inv vS vBo es) (vS k) (vBo v)).length
def be (els : List Value) (i : Int) : List Value := match nth els i.toNat with | some (.func _ ⟨l⟩ _) => l | _ => []
def elF : El := { El.of (fun sz t els i => bif Nat.beq t 65 then some (dat 1 (be els i)) else some (.string (bk els i))) with ml := fun _ es k => some (.bool (mgB es k), mhB es k), mu := fun _ es _ k v => some (msB es k v, mnB es k v) }
def XF : SX := ⟨env, tabJ4, elF, fun k => bif Nat.beq k 9 then .autoN [] [] [42] [1, 3, 43, 44, 45] else bif Nat.beq k 18 then .autoN [] [] [42] [1, 61, 62, 63] else .autoN [] [] [42] [1, 61, 62, 63, 73, 74, 75]⟩
theorem sG : XF.Ok := ⟨env_ok, cC, bw, qK⟩
def fdC (n : SB) (m : Int) (cols rows : List Value) : AObj := .cells [.string n, .int .i64 m, dat 1 cols, dat 1 rows] 42
def hF0 (n : SB) (m : Int) (cols rows : List Value) : AH := ⟨Nd Lf (some (fdC n m cols rows)) Lf, 1⟩
def hF1 (n : SB) (m : Int) (cols rows : List Value) (es : fm) (c : Nat) : AH := ⟨Nd (Nd Lf (some (.map es c)) Lf) (some (fdC n m cols rows)) Lf, 2⟩
def frF1 (cols : List Value) (i : Nat) : T Value := (Nd (Nd (Nd Lf (some (.map (some 1))) (Nd Lf none (Nd (Nd Lf (some (dat 1 cols)) Lf) none Lf))) (some (.pointer (some ⟨0, 0, none⟩))) (Nd Lf none (Nd Lf none (Nd (Nd Lf (some (.int .i64 i)) Lf) none Lf)))) none (Nd (Nd Lf none (Nd Lf none (Nd (Nd Lf (some (.int .i64 cols.length)) Lf) none Lf))) none Lf))
def frF2 (rows : List Value) (i : Nat) : T Value := (Nd (Nd (Nd (Nd (Nd (Nd (Nd Lf (some (.int .i64 i)) Lf) none Lf) none Lf) none Lf) none Lf) (some (.pointer (some ⟨0, 0, none⟩))) (Nd Lf none (Nd Lf none (Nd Lf none (Nd Lf (some (dat 1 rows)) Lf))))) none (Nd Lf none (Nd Lf none (Nd Lf none (Nd Lf none (Nd Lf (some (.int .i64 rows.length)) Lf))))))
def frF3 (rows : List Value) (i : Nat) (r : List Value) (j : Nat) : T Value := (Nd (Nd (Nd (Nd (Nd (Nd (Nd Lf (some (.int .i64 i)) Lf) none Lf) none Lf) none Lf) none (Nd Lf none (Nd (Nd (Nd Lf (some (.int .i64 j)) Lf) none Lf) none Lf))) (some (.pointer (some ⟨0, 0, none⟩))) (Nd (Nd Lf none (Nd (Nd (Nd Lf (some (dat 1 r)) Lf) none Lf) none Lf)) none (Nd Lf none (Nd Lf none (Nd Lf (some (dat 1 rows)) Lf))))) none (Nd Lf none (Nd (Nd Lf none (Nd (Nd (Nd Lf (some (.int .i64 r.length)) Lf) none Lf) none Lf)) none (Nd Lf none (Nd Lf none (Nd Lf (some (.int .i64 rows.length)) Lf))))))
def jCf (K : KV) (n : SB) (m : Int) (cols rows : List Value) : Prop := aG XF 1 f22 [fdv n m cols rows] ⟨.leaf, 0⟩ K
def kp (K : KV) : KX := finK XF.E (f22.results).toList K
def jCf1 (K : KV) (again : KF) (n : SB) (m : Int) (cols rows : List Value) (es : fm) (c i : Nat) : Prop := au XF 1 (Func.ntmps f22) ⟨.leaf, 0⟩ (ac f22) [1, 1, 1, 0, 1, 0] (kp K) [] [] [42] [1, 3, 43, 44, 45] again (frF1 cols i) (hF1 n m cols rows es c)
def cF2 : Code := aF (subC [1, 1, 1, 1, 0, 1, 0] (ac f22))
def kF2 (K : KV) (again : KF) : KX := cv XF 1 (Func.ntmps f22) ⟨.leaf, 0⟩ (ac f22) [1, 1, 1, 1, 0, 1, 0] (kp K) [] [] [42] [1, 61, 62, 63] again
def jCf2 (K : KV) (again : KF) (n : SB) (m : Int) (cols rows : List Value) (i : Nat) : Prop := au XF 1 (Func.ntmps f22) ⟨.leaf, 0⟩ (ac f22) [1, 1, 1, 1, 0, 1, 0] (kp K) [] [] [42] [1, 61, 62, 63] again (frF2 rows i) (hF0 n m cols rows)
def jCf3 (K : KV) (again0 again : KF) (n : SB) (m : Int) (cols rows : List Value) (i : Nat) (r : List Value) (j : Nat) : Prop := au XF 1 (Func.ntmps f22) ⟨.leaf, 0⟩ cF2 [1, 1, 0, 0, 1, 1, 1, 0] (kF2 K again0) [] [] [42] [1, 61, 62, 63, 73, 74, 75] again (frF3 rows i r j) (hF0 n m cols rows)
set_option maxHeartbeats 4000000
theorem jCf_nf (K : KV) (n : SB) (m : Int) (cols rows : List Value) : jCf K n m cols rows = (Sp (!decide (m = 1)) (Sp (!decide (m = 2)) (K (Vi 7) (AH.mk (Sg (AObj.cells [Vs n, Vi m, Vd 1 cols, Vd 1 rows] 42)) 1)) (Sp (decide ((cols.length : Int) = 0)) (K (Vi 13) (AH.mk (Sg (AObj.cells [Vs n, Vi m, Vd 1 cols, Vd 1 rows] 42)) 1)) (Sp (decide ((rows.length : Int) = 0)) (K (Vi 13) (AH.mk (Sg (AObj.cells [Vs n, Vi m, Vd 1 cols, Vd 1 rows] 42)) 1)) (Sp (decide (20 < (cols.length : Int))) (K (Vi 3) (AH.mk (Sg (AObj.cells [Vs n, Vi m, Vd 1 cols, Vd 1 rows] 42)) 1)) (Sp (decide (10000 < (rows.length : Int))) (K (Vi 3) (AH.mk (Sg (AObj.cells [Vs n, Vi m, Vd 1 cols, Vd 1 rows] 42)) 1)) (HF (Vd 1 cols) ∧ HF (Va [Vs n, Vi m, Vd 1 cols, Vd 1 rows]) ∧ HF (Va []) ∧ LAtZ XF 1 f22.ntmps (AH.mk Lf 0) (ac f22) [1, 1, 1, 0, 1, 0] (finK (SX.E XF) f22.results.toList K) (No (Ns (Ns Lf (Value.map (some 1)) (No Lf (No (Sg (Vd 1 cols)) Lf))) (Value.pointer (some ⟨0, 0, none⟩)) (No Lf (No Lf (No (Sg (Vi 0)) Lf)))) (No (No Lf (No Lf (No (Sg (Vi cols.length)) Lf))) Lf)) (AH.mk (Ns (Sg (AObj.map [] 0)) (AObj.cells [Vs n, Vi m, Vd 1 cols, Vd 1 rows] 42) Lf) 2))))))) (Sp (decide ((cols.length : Int) = 0)) (K (Vi 13) (AH.mk (Sg (AObj.cells [Vs n, Vi m, Vd 1 cols, Vd 1 rows] 42)) 1)) (Sp (decide ((rows.length : Int) = 0)) (K (Vi 13) (AH.mk (Sg (AObj.cells [Vs n, Vi m, Vd 1 cols, Vd 1 rows] 42)) 1)) (Sp (decide (20 < (cols.length : Int))) (K (Vi 3) (AH.mk (Sg (AObj.cells [Vs n, Vi m, Vd 1 cols, Vd 1 rows] 42)) 1)) (Sp (decide (10000 < (rows.length : Int))) (K (Vi 3) (AH.mk (Sg (AObj.cells [Vs n, Vi m, Vd 1 cols, Vd 1 rows] 42)) 1)) (HF (Vd 1 cols) ∧ HF (Va [Vs n, Vi m, Vd 1 cols, Vd 1 rows]) ∧ HF (Va []) ∧ LAtZ XF 1 f22.ntmps (AH.mk Lf 0) (ac f22) [1, 1, 1, 0, 1, 0] (finK (SX.E XF) f22.results.toList K) (No (Ns (Ns Lf (Value.map (some 1)) (No Lf (No (Sg (Vd 1 cols)) Lf))) (Value.pointer (some ⟨0, 0, none⟩)) (No Lf (No Lf (No (Sg (Vi 0)) Lf)))) (No (No Lf (No Lf (No (Sg (Vi cols.length)) Lf))) Lf)) (AH.mk (Ns (Sg (AObj.map [] 0)) (AObj.cells [Vs n, Vi m, Vd 1 cols, Vd 1 rows] 42) Lf) 2))))))) := by kernel_rfl
theorem x8 (K : KV) (again : KF) (n : SB) (m : Int) (cols rows : List Value) (es : fm) (c i : Nat) : jCf1 K again n m cols rows es c i = (Sp (decide ((i : Int) < (cols.length : Int))) ((0 ≤ (i : Int) ∧ (i : Int) < (cols.length : Int)) ∧ nth cols (i) = some (Vs (match nth cols (i) with | some (Value.string s) => s | x => ByteArray.empty)) ∧ ByteArray.size (bk cols i) < 9223372036854775808 ∧ Sp (!az (bk cols i)) (K (Vi 8) (AH.mk (Ns (Sg (AObj.map es c)) (AObj.cells [Vs n, Vi m, Vd 1 cols, Vd 1 rows] 42) Lf) 2)) (iN (SX.E XF) 39 es (Vs (match nth cols (i) with | some (Value.string s) => s | x => ByteArray.empty)) = some (Value.bool (mgB es (Vs (match nth cols (i) with | some (Value.string s) => s | x => ByteArray.empty))), mhB es (Vs (match nth cols (i) with | some (Value.string s) => s | x => ByteArray.empty))) ∧ Sp (mgB es (Vs (match nth cols (i) with | some (Value.string s) => s | x => ByteArray.empty))) (K (Vi 5) (AH.mk (Ns (Sg (AObj.map es c)) (AObj.cells [Vs n, Vi m, Vd 1 cols, Vd 1 rows] 42) Lf) 2)) (cA (SX.E XF) 39 es c (Vs (match nth cols (i) with | some (Value.string s) => s | x => ByteArray.empty)) (Vb true) = some (msB es (Vs (match nth cols (i) with | some (Value.string s) => s | x => ByteArray.empty)) (Vb true), mnB es (Vs (match nth cols (i) with | some (Value.string s) => s | x => ByteArray.empty)) (Vb true)) ∧ HF (Vd 1 cols) ∧ HF (Va [Vs n, Vi m, Vd 1 cols, Vd 1 rows]) ∧ HF (Va (List.map (fun (x : Value × Value × Nat) => Prod.fst (Prod.snd x)) (msB es (Vs (match nth cols (i) with | some (Value.string s) => s | x => ByteArray.empty)) (Vb true)))) ∧ again (No (Ns (Ns Lf (Value.map (some 1)) (No Lf (No (Sg (Vd 1 cols)) Lf))) (Value.pointer (some ⟨0, 0, none⟩)) (No Lf (No Lf (No (Sg (Vi (Wi ((i : Int) + 1)))) Lf)))) (No (No Lf (No Lf (No (Sg (Vi cols.length)) Lf))) Lf)) (AH.mk (Ns (Sg (AObj.map (msB es (Vs (match nth cols (i) with | some (Value.string s) => s | x => ByteArray.empty)) (Vb true)) (mnB es (Vs (match nth cols (i) with | some (Value.string s) => s | x => ByteArray.empty)) (Vb true)))) (AObj.cells [Vs n, Vi m, Vd 1 cols, Vd 1 rows] 42) Lf) 2)))) (HF (Vd 1 rows) ∧ HF (Va [Vs n, Vi m, Vd 1 cols, Vd 1 rows]) ∧ LAtZ XF 1 f22.ntmps (AH.mk Lf 0) (ac f22) [1, 1, 1, 1, 0, 1, 0] (kp K) (No (Ns (No (No (No (No (Sg (Vi 0)) Lf) Lf) Lf) Lf) (Value.pointer (some ⟨0, 0, none⟩)) (No Lf (No Lf (No Lf (Sg (Vd 1 rows)))))) (No Lf (No Lf (No Lf (No Lf (Sg (Vi rows.length))))))) (AH.mk (Sg (AObj.cells [Vs n, Vi m, Vd 1 cols, Vd 1 rows] 42)) 1))) := by kernel_rfl
theorem x7 (K : KV) (again : KF) (n : SB) (m : Int) (cols rows : List Value) (i : Nat) : jCf2 K again n m cols rows i = (Sp (decide ((i : Int) < (rows.length : Int))) ((0 ≤ (i : Int) ∧ (i : Int) < (rows.length : Int)) ∧ nth rows (i) = some (Vd 1 (be rows i)) ∧ Sp (!decide ((↑(List.length (be rows i)) : Int) = (cols.length : Int))) (K (Vi 2) (AH.mk (Sg (AObj.cells [Vs n, Vi m, Vd 1 cols, Vd 1 rows] 42)) 1)) (HF (Vd 1 rows) ∧ HF (Vd 1 (be rows i)) ∧ HF (Va [Vs n, Vi m, Vd 1 cols, Vd 1 rows]) ∧ LAtZ XF 1 f22.ntmps (AH.mk Lf 0) (aF (subC [1, 1, 1, 1, 0, 1, 0] (ac f22))) [1, 1, 0, 0, 1, 1, 1, 0] (cv XF 1 f22.ntmps (AH.mk Lf 0) (ac f22) [1, 1, 1, 1, 0, 1, 0] (kp K) [] [] [42] [1, 61, 62, 63] again) (No (Ns (No (No (No (No (Sg (Vi i)) Lf) Lf) Lf) (No Lf (No (No (Sg (Vi 0)) Lf) Lf))) (Value.pointer (some ⟨0, 0, none⟩)) (No (No Lf (No (No (Sg (Vd 1 (be rows i))) Lf) Lf)) (No Lf (No Lf (Sg (Vd 1 rows)))))) (No Lf (No (No Lf (No (No (Sg (Vi (↑(List.length (be rows i)) : Int))) Lf) Lf)) (No Lf (No Lf (Sg (Vi rows.length))))))) (AH.mk (Sg (AObj.cells [Vs n, Vi m, Vd 1 cols, Vd 1 rows] 42)) 1))) (K (Vi 0) (AH.mk (Sg (AObj.cells [Vs n, Vi m, Vd 1 cols, Vd 1 rows] 42)) 1))) := by kernel_rfl
theorem x6 (K : KV) (again0 : KF) (again : KF) (n : SB) (m : Int) (cols rows : List Value) (i : Nat) (r : List Value) (j : Nat) : jCf3 K again0 again n m cols rows i r j = (Sp (decide ((j : Int) < (r.length : Int))) ((0 ≤ (j : Int) ∧ (j : Int) < (r.length : Int)) ∧ nth r (j) = some (Vs (match nth r (j) with | some (Value.string s) => s | x => ByteArray.empty)) ∧ Sp (decide (1000000 < (↑(ByteArray.size (bk r j)) : Int))) (K (Vi 3) (AH.mk (Sg (AObj.cells [Vs n, Vi m, Vd 1 cols, Vd 1 rows] 42)) 1)) (HF (Vd 1 rows) ∧ HF (Vd 1 r) ∧ HF (Va [Vs n, Vi m, Vd 1 cols, Vd 1 rows]) ∧ again (No (Ns (No (No (No (No (Sg (Vi i)) Lf) Lf) Lf) (No Lf (No (No (Sg (Vi (Wi ((j : Int) + 1)))) Lf) Lf))) (Value.pointer (some ⟨0, 0, none⟩)) (No (No Lf (No (No (Sg (Vd 1 r)) Lf) Lf)) (No Lf (No Lf (Sg (Vd 1 rows)))))) (No Lf (No (No Lf (No (No (Sg (Vi r.length)) Lf) Lf)) (No Lf (No Lf (Sg (Vi rows.length))))))) (AH.mk (Sg (AObj.cells [Vs n, Vi m, Vd 1 cols, Vd 1 rows] 42)) 1))) (HF (Vd 1 rows) ∧ HF (Va [Vs n, Vi m, Vd 1 cols, Vd 1 rows]) ∧ again0 (No (Ns (No (No (No (No (Sg (Vi (Wi ((i : Int) + 1)))) Lf) Lf) Lf) Lf) (Value.pointer (some ⟨0, 0, none⟩)) (No Lf (No Lf (No Lf (Sg (Vd 1 rows)))))) (No Lf (No Lf (No Lf (No Lf (Sg (Vi rows.length))))))) (AH.mk (Sg (AObj.cells [Vs n, Vi m, Vd 1 cols, Vd 1 rows] 42)) 1))) := by kernel_rfl
def sv (l : List SB) : List Value := l.map Value.string
def rv (l : List (List SB)) : List Value := l.map fun r => dat 1 (sv r)
def txF : List SB → Int
 | [] => 0
 | s :: l => bif decide ((1000000 : Int) < s.size) then 3 else txF l
def rowF (n : Nat) : List (List SB) → Int
 | [] => 0
 | r :: l => bif decide (r.length = n) then (bif decide (txF r = 0) then rowF n l else 3) else 2
def colF : List (List UInt8) → List SB → Int
 | _, [] => 0
 | seen, c :: l => bif az c then (bif decide (c.data.toList ∈ seen) then 5 else colF (seen ++ [c.data.toList]) l) else 8
theorem er (r : List SB) : HF (dat 1 (sv r)) := .dat fun x hx => by obtain ⟨s, _, rfl⟩ := List.mem_map.1 hx; exact .scal rfl
theorem i4 (l : List (List SB)) : HF (dat 1 (rv l)) := .dat fun x hx => by obtain ⟨s, _, rfl⟩ := List.mem_map.1 hx; exact er s
theorem cG (n : SB) (m : Int) (cs : List SB) (rs : List (List SB)) : HF (.agg ⟨[.string n, .int .i64 m, dat 1 (sv cs), dat 1 (rv rs)]⟩) := .agg (HF.cons (.scal rfl) (HF.cons (.scal rfl) (HF.cons (er _) (HF.cons (i4 _) HF.nil))))
theorem gP {r : List SB} {j : Nat} (h : j < r.length) : nth (sv r) j = some (.string r[j]) := by
 rw [aD]; simp [sv, List.getElem?_eq_getElem h]
theorem nO {r : List SB} {j : Nat} (h : j < r.length) : bk (sv r) (j : Int) = r[j] := by
 simp only [bk, Int.toNat_natCast, gP h]
theorem n4 {l : List (List SB)} {j : Nat} (h : j < l.length) : nth (rv l) j = some (dat 1 (sv l[j])) := by
 rw [aD]; simp [rv, List.getElem?_eq_getElem h]
theorem rw_at {l : List (List SB)} {j : Nat} (h : j < l.length) : be (rv l) (j : Int) = sv l[j] := by
 simp only [be, Int.toNat_natCast, n4 h]
 rfl
theorem aP (r : List SB) : (sv r).length = r.length := by simp [sv]
theorem bB (l : List (List SB)) : (rv l).length = l.length := by simp [rv]
theorem Ae {K : KV} {again0 : KF} (n : SB) (m : Int) (cs : List SB) (rs : List (List SB)) (i : Nat) (r : List SB) (hr : r.length ≤ 1000000) (hi : i ≤ 1000000)
 (hK : txF r ≠ 0 → K (.int .i64 3) (hF0 n m (sv cs) (rv rs))) (h : txF r = 0 → again0 (frF2 (rv rs) (i + 1)) (hF0 n m (sv cs) (rv rs))) :
 LAtZ XF 1 (Func.ntmps f22) ⟨.leaf, 0⟩ cF2 [1, 1, 0, 0, 1, 1, 1, 0] (kF2 K again0) (frF3 (rv rs) i (sv r) 0) (hF0 n m (sv cs) (rv rs)) := by
 refine LAtZ.step sG rfl [] [] [42] [1, 61, 62, 63, 73, 74, 75] (by kernel_rfl) (fun k F A => ∃ j : Nat, F = frF3 (rv rs) i (sv r) j ∧ A = hF0 n m (sv cs) (rv rs) ∧ j + k = r.length ∧ txF r = txF (r.drop j)) ?_ (k := r.length) ⟨0, rfl, rfl, by simp, by simp⟩
 rintro k F A ⟨j, rfl, rfl, hk, hx⟩
 refine (x6 K again0 _ n m _ _ i _ j).mpr ?_
 refine Sp.intro (fun c => ?_) (fun c => ?_)
 · have hlt : j < r.length := by simpa [aP] using c
   have hw := i64s j (by omega)
   rw [List.drop_eq_getElem_cons hlt] at hx
   simp only [Int.toNat_natCast, nO hlt, hw]
   refine ⟨by rw [aP]; omega, by rw [gP hlt], Sp.intro (fun c2 => hK ?_) (fun c2 => ⟨i4 rs, er r, cG n m cs rs, k - 1, by omega, j + 1, rfl, by first | trivial | rfl, by omega, ?_⟩)⟩
   · rw [hx]; simp only [txF, c2, cond_true]; decide
   · rw [hx]; simp only [txF, c2, cond_false]
 · have hn : r.drop j = [] := List.drop_eq_nil_of_le (by simp [aP] at c; omega)
   rw [hn] at hx
   have hw := i64s i (by omega)
   simp only [hw]
   exact ⟨i4 rs, cG n m cs rs, h hx⟩
theorem Af {K : KV} (n : SB) (m : Int) (cs : List SB) (rs : List (List SB)) (hc : cs.length ≤ 1000000) (hr : rs.length ≤ 1000000)
 (hK : K (.int .i64 (rowF cs.length rs)) (hF0 n m (sv cs) (rv rs))) :
 LAtZ XF 1 (Func.ntmps f22) ⟨.leaf, 0⟩ (ac f22) [1, 1, 1, 1, 0, 1, 0] (kp K) (frF2 (rv rs) 0) (hF0 n m (sv cs) (rv rs)) := by
 refine LAtZ.step sG rfl [] [] [42] [1, 61, 62, 63] (by kernel_rfl) (fun k F A => ∃ i : Nat, F = frF2 (rv rs) i ∧ A = hF0 n m (sv cs) (rv rs) ∧ i + k = rs.length ∧ rowF cs.length rs = rowF cs.length (rs.drop i)) ?_ (k := rs.length) ⟨0, rfl, rfl, by simp, by simp⟩
 rintro k F A ⟨i, rfl, rfl, hk, hx⟩
 refine (x7 K _ n m _ _ i).mpr ?_
 refine Sp.intro (fun c => ?_) (fun c => ?_)
 · have hlt : i < rs.length := by simpa [bB] using c
   rw [List.drop_eq_getElem_cons hlt] at hx
   simp only [Int.toNat_natCast, rw_at hlt]
   refine ⟨by rw [bB]; omega, by rw [n4 hlt]; rfl, Sp.intro (fun c2 => ?_) (fun c2 => ?_)⟩
   · have e : rowF cs.length rs = 2 := by
      rw [hx]; unfold rowF
      have : decide (rs[i].length = cs.length) = false := by simp [aP] at c2; simp; omega
      rw [this]; rfl
     rw [e] at hK; exact hK
   · have e : decide (rs[i].length = cs.length) = true := by simp [aP] at c2; simp; omega
     have el : rs[i].length = cs.length := odt e
     refine ⟨i4 rs, er _, cG n m cs rs, Ae n m cs rs i rs[i] (by omega) (by omega) (fun h => ?_) (fun h => ?_)⟩
     · have e2 : rowF cs.length rs = 3 := by
        rw [hx]; unfold rowF; rw [e, show decide (txF rs[i] = 0) = false by simp [h]]; rfl
       rw [e2] at hK; exact hK
     · refine ⟨k - 1, by omega, i + 1, rfl, rfl, by omega, ?_⟩
       rw [hx]
       show (bif decide (rs[i].length = cs.length) then (bif decide (txF rs[i] = 0) then rowF cs.length (rs.drop (i + 1)) else 3) else 2) = _
       rw [e, show decide (txF rs[i] = 0) = true by simp [h]]; rfl
 · have hn : rs.drop i = [] := List.drop_eq_nil_of_le (by simp [bB] at c; omega)
   rw [hn] at hx
   rw [hx] at hK
   exact hK
end
end Go.T9
set_option maxHeartbeats 4000000
namespace Go.T9
open Go Go.AM Go.MK
noncomputable section
theorem kD (a b : List UInt8) : eqL a b = decide (a = b) := by
 cases h : eqL a b with
 | true => simp [(bD a b).1 h]
 | false =>
   by_cases e : a = b
   · rw [(bD a b).2 e] at h; cases h
   · simp [e]
theorem koS : KeyOk env 39 9 4 kS (.bool false) := ⟨by kernel_rfl, fun _ => rfl, fun emp k => by cases emp <;> kernel_rfl, ⟨.string, by kernel_rfl, .inl fun a b => by
 show some (eqL a b) = _
 rw [kD]⟩, fun k => by simp [kS, Instr.sameBits, gA, (bD _ _).2 rfl], ⟨_, rfl, rfl, rfl⟩⟩
theorem invB (m : MB) : inv vS vBo (enB m) = m := rV (fun _ => rfl) (fun _ => rfl) m
theorem mgB_e (m : MB) (s : SB) : mgB (enB m) (.string s) = (aget m s.data.toList).getD false := by unfold mgB; rw [invB]; rfl
theorem msB_e (m : MB) (s : SB) : msB (enB m) (.string s) (.bool true) = enB (aset m s.data.toList true) := by unfold msB; rw [invB]; rfl
theorem mnB_e (m : MB) (s : SB) : mnB (enB m) (.string s) (.bool true) = (aset m s.data.toList true).length := by unfold mnB; rw [invB]; rfl
theorem lookB (m : MB) (s : SB) : iN env 39 (enB m) (.string s) = some (.bool ((aget m s.data.toList).getD false), mhB (enB m) (.string s)) := by
 refine (oP koS Value.bool s.data.toList m).trans ?_
 unfold mhB
 rw [invB]
 show _ = some (Value.bool ((aget m s.data.toList).getD false), (aget m s.data.toList).isSome)
 cases aget m s.data.toList <;> rfl
theorem updB (m : MB) (s : SB) : cA env 39 (enB m) m.length (.string s) (.bool true) = some (enB (aset m s.data.toList true), (aset m s.data.toList true).length) := qk koS Value.bool s.data.toList true m
theorem uH (m : MB) : HF (.agg ⟨(enB m).map fun x => x.2.1⟩) := zZ (fun v => .scal rfl) m
end
end Go.T9
namespace Go.T9
open Go Go.AM Go.MK Go.Proofs.Tryz
noncomputable section
def seenF (cs : List SB) (i : Nat) : List (List UInt8) := (cs.take i).map fun s => s.data.toList
theorem jf {cs : List SB} {i : Nat} (h : i < cs.length) : seenF cs (i + 1) = seenF cs i ++ [cs[i].data.toList] := by
 unfold seenF; rw [List.take_succ_eq_append_getElem h, List.map_append]; rfl
theorem jU {cs : List SB} {i : Nat} (h : i < cs.length) : colF (seenF cs i) (cs.drop i) = bif az cs[i] then (bif decide (cs[i].data.toList ∈ seenF cs i) then 5 else colF (seenF cs (i + 1)) (cs.drop (i + 1))) else 8 := by
 rw [List.drop_eq_getElem_cons h, jf h]; rfl
theorem Ag {K : KV} (n : SB) (m : Int) (cs : List SB) (rs : List (List SB)) (hc : cs.length ≤ 1000000) (hr : rs.length ≤ 1000000) (hb : ∀ s ∈ cs, s.size < 9223372036854775808)
 (hK0 : colF [] cs ≠ 0 → ∀ A, K (.int .i64 (colF [] cs)) A) (hK1 : colF [] cs = 0 → K (.int .i64 (rowF cs.length rs)) (hF0 n m (sv cs) (rv rs))) :
 LAtZ XF 1 (Func.ntmps f22) ⟨.leaf, 0⟩ (ac f22) [1, 1, 1, 0, 1, 0] (kp K) (frF1 (sv cs) 0) (hF1 n m (sv cs) (rv rs) (enB []) 0) := by
 refine LAtZ.step sG rfl [] [] [42] [1, 3, 43, 44, 45] (by kernel_rfl) (fun k F A => ∃ (i : Nat) (mm : MB), F = frF1 (sv cs) i ∧ A = hF1 n m (sv cs) (rv rs) (enB mm) mm.length ∧ i + k = cs.length ∧ (∀ x, aget mm x = if x ∈ seenF cs i then some true else none) ∧ colF [] cs = colF (seenF cs i) (cs.drop i)) ?_ (k := cs.length) ⟨0, [], rfl, rfl, by simp, by simp [aget, seenF], by simp [seenF]⟩
 rintro k F A ⟨i, mm, rfl, rfl, hk, hm, hx⟩
 refine (x8 K _ n m _ _ _ _ i).mpr ?_
 refine Sp.intro (fun c => ?_) (fun c => ?_)
 · have hlt : i < cs.length := by simpa [aP] using c
   have hw := i64s i (by omega)
   rw [jU hlt] at hx
   simp only [Int.toNat_natCast, nO hlt, gP hlt, hw, mgB_e, msB_e, mnB_e]
   refine ⟨by rw [aP]; omega, by first | trivial | rfl, hb _ (List.getElem_mem hlt), Sp.intro (fun c2 => ?_) (fun c2 => ⟨lookB mm _, Sp.intro (fun c3 => ?_) (fun c3 => ⟨updB mm _, er cs, cG n m cs rs, uH _, k - 1, by omega, i + 1, _, rfl, by first | trivial | rfl, by omega, fun x => ?_, ?_⟩)⟩)⟩
   · have e : az cs[i] = false := by simpa using c2
     rw [e] at hx
     have e2 : colF [] cs = 8 := hx
     have := hK0 (by rw [e2]; decide)
     rw [e2] at this; exact this _
   · have e : az cs[i] = true := by simpa using c2
     rw [hm] at c3
     have e3 : cs[i].data.toList ∈ seenF cs i := by
      by_cases h : cs[i].data.toList ∈ seenF cs i
      · exact h
      · rw [if_neg h] at c3; cases c3
     rw [e] at hx
     have e2 : colF [] cs = 5 := by rw [hx, decide_eq_true e3]; rfl
     have := hK0 (by rw [e2]; decide)
     rw [e2] at this; exact this _
   · rw [mi, jf hlt, hm x]
     by_cases h : cs[i].data.toList = x
     · subst h; simp
     · rw [if_neg h]
       have : (x ∈ seenF cs i ++ [cs[i].data.toList]) ↔ x ∈ seenF cs i := by rw [List.mem_append, List.mem_singleton]; exact ⟨fun q => q.elim id (fun q => absurd q.symm h), .inl⟩
       simp only [this]
   · have e : az cs[i] = true := by simpa using c2
     rw [hm] at c3
     have e3 : ¬ cs[i].data.toList ∈ seenF cs i := fun h => by rw [if_pos h] at c3; cases c3
     rw [hx, e, decide_eq_false e3]; rfl
 · have hn : cs.drop i = [] := List.drop_eq_nil_of_le (by simp [aP] at c; omega)
   rw [hn] at hx
   have hx : colF [] cs = 0 := hx.trans (by cases seenF cs i <;> rfl)
   exact ⟨i4 rs, cG n m cs rs, Af n m cs rs hc hr (hK1 hx)⟩
def fdF (m : Int) (cs : List SB) (rs : List (List SB)) : Int :=
 bif decide (m = 1) || decide (m = 2) then (bif decide (cs.length = 0) || decide (rs.length = 0) then 13 else bif decide (20 < cs.length) || decide (10000 < rs.length) then 3 else bif decide (colF [] cs = 0) then rowF cs.length rs else colF [] cs) else 7
theorem zd (n : SB) (m : Int) (cs : List SB) (rs : List (List SB)) (hb : ∀ s ∈ cs, s.size < 9223372036854775808) : bx env f22 [fdv n m (sv cs) (rv rs)] ⟨.leaf, 0⟩ (.int .i64 (fdF m cs rs)) := by
 refine av sG (d := 1) ((jCf_nf _ n m _ _).mpr ?_)
 refine Sp.intro (fun c1 => Sp.intro (fun c2 => ?_) (fun c2 => ?_)) (fun c1 => ?_)
 · have e : fdF m cs rs = 7 := by
    simp at c1 c2
    unfold fdF; simp [c1, c2]
   rw [e]; exact Frz.same (HFi _ _)
 all_goals
  have hm : (decide (m = 1) || decide (m = 2)) = true := by first | (simp at c2; simp [c2]) | (simp at c1; simp [c1])
  refine Sp.intro (fun c3 => ?_) (fun c3 => Sp.intro (fun c4 => ?_) (fun c4 => Sp.intro (fun c5 => ?_) (fun c5 => Sp.intro (fun c6 => ?_) (fun c6 => ?_))))
  · have e : fdF m cs rs = 13 := by
     simp [aP] at c3
     unfold fdF; rw [hm]; simp [c3]
    rw [e]; exact Frz.same (HFi _ _)
  · have e : fdF m cs rs = 13 := by
     simp [bB] at c4
     unfold fdF; rw [hm]; simp [c4]
    rw [e]; exact Frz.same (HFi _ _)
  · have e : fdF m cs rs = 3 := by
     have h1 : 20 < cs.length := by simp [aP] at c5; omega
     have h3 : decide (cs.length = 0) = false := by simp; intro h; simp [h] at h1
     have h4 : decide (rs.length = 0) = false := by simp [bB] at c4; simp [c4]
     unfold fdF; rw [hm, h3, h4]; simp [h1]
    rw [e]; exact Frz.same (HFi _ _)
  · have e : fdF m cs rs = 3 := by
     have h1 : 10000 < rs.length := by simp [bB] at c6; omega
     have h3 : decide (cs.length = 0) = false := by simp [aP] at c3; simp [c3]
     have h4 : decide (rs.length = 0) = false := by simp [bB] at c4; simp [c4]
     unfold fdF; rw [hm, h3, h4]; simp [h1]
    rw [e]; exact Frz.same (HFi _ _)
  · have h1 : cs.length ≤ 20 := by simp [aP] at c5; omega
    have h2 : rs.length ≤ 10000 := by simp [bB] at c6; omega
    have h3 : decide (cs.length = 0) = false := by simp [aP] at c3; simp [c3]
    have h4 : decide (rs.length = 0) = false := by simp [bB] at c4; simp [c4]
    have e : fdF m cs rs = bif decide (colF [] cs = 0) then rowF cs.length rs else colF [] cs := by
     unfold fdF; rw [hm, h3, h4, show decide (20 < cs.length) = false by simp; omega, show decide (10000 < rs.length) = false by simp; omega]; rfl
    refine ⟨er cs, cG n m cs rs, .agg HF.nil, Ag n m cs rs (by omega) (by omega) hb (fun h A => ?_) (fun h => ?_)⟩
    · rw [e, show decide (colF [] cs = 0) = false by simp [h]]; exact Frz.same (HFi _ _)
    · rw [e, show decide (colF [] cs = 0) = true by simp [h]]; exact Frz.same (HFi _ _)
def unS (l : List Value) : List SB := l.map fun v => match v with | .string s => s | _ => ByteArray.empty
def unR (l : List Value) : List (List SB) := l.map fun v => match v with | .func _ ⟨r⟩ _ => unS r | _ => []
theorem gN (l : List SB) : unS (sv l) = l := by
 unfold unS sv
 rw [List.map_map]
 exact (List.map_congr_left fun x _ => rfl).trans (List.map_id _)
theorem i5 (l : List (List SB)) : unR (rv l) = l := by
 unfold unR rv
 rw [List.map_map]
 exact (List.map_congr_left fun x _ => gN x).trans (List.map_id _)
def cfX : List Value → Option Value
 | [.agg ⟨[.string _, .int .i64 m, .func (.yield 1) ⟨a⟩ ⟨[]⟩, .func (.yield 1) ⟨b⟩ ⟨[]⟩]⟩] => some (.int .i64 (fdF m (unS a) (unR b)))
 | _ => none
def sC : List Value → Option Prop
 | [.agg ⟨[.string _, .int .i64 m, .func (.yield 1) ⟨a⟩ ⟨[]⟩, .func (.yield 1) ⟨b⟩ ⟨[]⟩]⟩] => some (∃ (cs : List SB) (rs : List (List SB)), a = sv cs ∧ b = rv rs ∧ ∀ s ∈ cs, s.size < 9223372036854775808)
 | _ => none
theorem cf_tab : ∀ args A p v A', ai sC cfX args A = some (p, v, A') → PH p → ap env 22 args A v A' := aj env_ok bw (fn := f22) rfl fun args v h hp => by
 unfold cfX at h
 split at h
 · simp only [osI] at h
   subst h
   obtain ⟨cs, rs, rfl, rfl, hb⟩ := hp
   refine ⟨HF.cons (cG _ _ cs rs) HF.nil, ?_⟩
   rw [gN, i5]
   exact zd _ _ cs rs hb
 · cases h
end
end Go.T9
