/- A part of the proof. -/
import Derived.Test.YtgbjgffiejlooaaGreatDoorU1
import Derived.KernelRfl
set_option linter.unusedVariables false
set_option linter.unusedSimpArgs false
set_option maxRecDepth 1000000
set_option maxHeartbeats 4000000
namespace Go.T9
open Go Go.AM Go.MK Go.Proofs.Tryz
noncomputable section
def jRl (K : KV) (c : Int) : Prop := sxFn XJ0 1 f45 [.int .u8 c] K
theorem jRl_nf (K : KV) (c : Int) : jRl K c = (Sp (decide (97 ≤ c)) (Sp (decide (c ≤ 122)) (K (Vb true) (AH.mk Lf 0)) (Sp (decide (65 ≤ c)) (K (Vb (decide (c ≤ 90))) (AH.mk Lf 0)) (K (Vb false) (AH.mk Lf 0)))) (Sp (decide (65 ≤ c)) (K (Vb (decide (c ≤ 90))) (AH.mk Lf 0)) (K (Vb false) (AH.mk Lf 0)))) := by kernel_rfl
theorem vH (c : Int) : Walk env f45 [.int .u8 c] (.bool (lB c)) := by
 refine bi ux (d := 1) ((jRl_nf _ c).mpr ?_)
 unfold lB
 cases decide (97 ≤ c) <;> cases decide (c ≤ 122) <;> cases decide (65 ≤ c) <;> cases decide (c ≤ 90) <;> exact Frz.same (HFb _)
theorem tE : Con env 45 (ck lbX) := dZ env_ok bw (fn := f45) rfl fun args v h => by
 unfold lbX at h
 split at h
 · simp only [osI] at h
   subst h
   exact ⟨HF.cons (.scal rfl) HF.nil, vH _⟩
 · cases h
def tabK1 : Tab := [(45, ai (fun _ => none) lbX)]
theorem qJ : TabOk env tabK1 := .cons (dK tE) .nil
def XK1 : SX := ⟨env, tabK1, noEl, fun _ => .unroll 0⟩
theorem XK1_ok : XK1.Ok := ⟨env_ok, cC, bw, qJ⟩
def jRw (K : KV) (c : Int) : Prop := sxFn XK1 3 f44 [.int .u8 c] K
theorem jRw_nf (K : KV) (c : Int) : jRw K c = (Sp (lB c) (K (Vb true) (AH.mk Lf 0)) (Sp (decide (48 ≤ c)) (Sp (decide (c ≤ 57)) (K (Vb true) (AH.mk Lf 0)) (Sp (decide (c = 95)) (K (Vb true) (AH.mk Lf 0)) (K (Vb (decide (c = 45))) (AH.mk Lf 0)))) (Sp (decide (c = 95)) (K (Vb true) (AH.mk Lf 0)) (K (Vb (decide (c = 45))) (AH.mk Lf 0))))) := by kernel_rfl
theorem vE (c : Int) : Walk env f44 [.int .u8 c] (.bool (wB c)) := by
 refine bi XK1_ok (d := 3) ((jRw_nf _ c).mpr ?_)
 unfold wB dB
 cases lB c <;> cases decide (48 ≤ c) <;> cases decide (c ≤ 57) <;> cases decide (c = 95) <;> cases decide (c = 45) <;> exact Frz.same (HFb _)
theorem rw_con : Con env 44 (ck wbX) := dZ env_ok bw (fn := f44) rfl fun args v h => by
 unfold wbX at h
 split at h
 · simp only [osI] at h
   subst h
   exact ⟨HF.cons (.scal rfl) HF.nil, vE _⟩
 · cases h
def tabK2 : Tab := [(45, ai (fun _ => none) lbX), (44, ai (fun _ => none) wbX)]
theorem qI : TabOk env tabK2 := .cons (dK tE) (.cons (dK rw_con) .nil)
def XK2 : SX := ⟨env, tabK2, noEl, fun _ => .auto [] [0, 3]⟩
theorem uw : XK2.Ok := ⟨env_ok, cC, bw, qI⟩
def frIs (s : ByteArray) (i : Nat) : T Value := (Nd (Nd (Nd Lf (some (.int .i64 i)) Lf) none Lf) (some (.string s)) Lf)
def jIs (Q : Value → Prop) (QA : KV) (s : ByteArray) : Prop := sxFn XK2 1 f23 [.string s] (ar Q QA)
def jIs1 (Q : Value → Prop) (QA : KV) (again : KF) (s : ByteArray) (i : Nat) : Prop := bO XK2 1 f23 [1, 0, 1, 0] (ar Q QA) [] [0, 3] again (frIs s i) ⟨.leaf, 0⟩
theorem jIs_nf (Q : Value → Prop) (QA : KV) (s : ByteArray) : jIs Q QA s = (LAt XK2 1 f23.ntmps (ac f23) [1, 0, 1, 0] (finK (SX.E XK2) f23.results.toList (ar Q QA)) (Ns (No (Sg (Vi 0)) Lf) (Vs s) Lf) (AH.mk Lf 0)) := by kernel_rfl
theorem xv (Q : Value → Prop) (QA : KV) (again : KF) (s : ByteArray) (i : Nat) : jIs1 Q QA again s i = (Sp (decide ((i : Int) < (s.size : Int))) ((0 ≤ (i : Int) ∧ (i : Int) < (s.size : Int)) ∧ Sp (!wB (ae s i)) (Q (Vb false)) (again (Ns (No (Sg (Vi (Wi ((i : Int) + 1)))) Lf) (Vs s) Lf) (AH.mk Lf 0))) (Sp (decide (1 ≤ (s.size : Int))) (Sp (decide ((s.size : Int) ≤ 50)) (((0 : Int) ≤ (0 : Int) ∧ 0 < (s.size : Int)) ∧ Q (Vb (lB (ae s 0)))) (Q (Vb false))) (Q (Vb false)))) := by kernel_rfl
theorem ym (Q : Value → Prop) (QA : KV) (s : ByteArray) (hs : s.size < 9223372036854775808) (hQ : Q (.bool (az s))) :
 LAt XK2 1 (Func.ntmps f23) (ac f23) [1, 0, 1, 0] (finK XK2.E (f23.results).toList (ar Q QA)) (frIs s 0) ⟨.leaf, 0⟩ := by
 have hsz : s.data.toList.length = s.size := by simp
 refine LAt.stepA uw [] [0, 3] (by kernel_rfl) (fun k F A => ∃ i : Nat, F = frIs s i ∧ A = ⟨.leaf, 0⟩ ∧ i + k = s.size ∧ s.data.toList.all (fun b => wB b.toNat) = (s.data.toList.drop i).all (fun b => wB b.toNat)) ?_ (k := s.size) ⟨0, rfl, rfl, by simp, by simp⟩
 rintro k F A ⟨i, rfl, rfl, hk, hall⟩
 refine (xv _ _ _ s i).mpr ?_
 refine Sp.intro (fun c => ?_) (fun c => ?_)
 · have hlt : i < s.size := by simpa using c
   have hl : i < s.data.toList.length := by omega
   have hw := i64s i (by omega)
   rw [List.drop_eq_getElem_cons hl, List.all_cons] at hall
   simp only [aL hl, hw]
   refine ⟨by omega, Sp.intro (fun h => ?_) (fun h => ⟨k - 1, by omega, i + 1, rfl, by first | trivial | rfl, by omega, ?_⟩)⟩
   · have h0 : wB (s.data.toList[i].toNat : Int) = false := by simpa using h
     have : az s = false := by unfold az; rw [hall, h0]; rfl
     rw [this] at hQ; exact hQ
   · have h0 : wB (s.data.toList[i].toNat : Int) = true := by simpa using h
     rw [hall, h0]; rfl
 · have hn : s.data.toList.drop i = [] := List.drop_eq_nil_of_le (by simp at c; omega)
   rw [hn] at hall
   have hall : s.data.toList.all (fun b => wB b.toNat) = true := hall
   refine Sp.intro (fun h => Sp.intro (fun h2 => ?_) (fun h2 => ?_)) (fun h => ?_)
   · have h1 : 1 ≤ s.size := by simp at h; omega
     have e : az s = lB (ae s 0) := by unfold az; rw [hall]; simp [h1, show s.size ≤ 50 by simp at h2; omega]
     rw [e] at hQ
     exact ⟨by omega, hQ⟩
   · have e : az s = false := by unfold az; simp [show ¬ s.size ≤ 50 by simp at h2; omega]
     rw [e] at hQ; exact hQ
   · have e : az s = false := by unfold az; simp [show ¬ 1 ≤ s.size by simp at h; omega]
     rw [e] at hQ; exact hQ
theorem yl (s : ByteArray) (hs : s.size < 9223372036854775808) : Walk env f23 [.string s] (.bool (az s)) := by
 refine aK uw (d := 1) (HFb _) ((jIs_nf _ _ s).mpr ?_)
 exact ym _ _ s hs rfl
theorem jF : ∀ args A p v A', ai aW nmX args A = some (p, v, A') → PH p → ap env 23 args A v A' := aj env_ok bw (fn := f23) rfl fun args v h hp => by
 unfold nmX at h
 split at h
 · simp only [osI] at h
   subst h
   exact ⟨HF.cons (.scal rfl) HF.nil, yl _ hp⟩
 · cases h
def tabK3 : Tab := [(23, ai aW nmX)]
theorem qH : TabOk env tabK3 := .cons jF .nil
def elG : El := El.of (fun sz t els i => bif Nat.beq t 69 then some (dat 1 (be els i)) else some (.string (bk els i)))
def XG : SX := ⟨env, tabK3, elG, fun k => bif Nat.beq k 8 then .autoN [] [] [42] [1, 40, 41, 42] else bif Nat.beq k 13 then .autoN [] [] [42] [1, 4, 40, 41, 42, 53, 54, 55] else bif Nat.beq k 20 then .autoN [] [] [42] [1, 65, 66, 67] else .autoN [] [] [42] [1, 65, 66, 67, 77, 78, 79]⟩
theorem p8 : XG.Ok := ⟨env_ok, cC, bw, qH⟩
def frG1 (cols : List Value) (i : Nat) : T Value := (Nd (Nd Lf (some (.pointer (some ⟨0, 0, none⟩))) (Nd (Nd Lf none (Nd (Nd Lf (some (.int .i64 cols.length)) Lf) none Lf)) none Lf)) none (Nd (Nd (Nd Lf none (Nd (Nd Lf (some (dat 1 cols)) Lf) none Lf)) none Lf) none (Nd (Nd Lf none (Nd (Nd Lf (some (.int .i64 i)) Lf) none Lf)) none Lf)))
def frG2 (cols : List Value) (i : Nat) (c : SB) (pre : List Value) (j : Nat) : T Value := (Nd (Nd (Nd (Nd Lf none (Nd Lf none (Nd Lf (some (.int .i64 j)) Lf))) none Lf) (some (.pointer (some ⟨0, 0, none⟩))) (Nd (Nd Lf none (Nd (Nd Lf (some (.int .i64 cols.length)) Lf) none Lf)) none (Nd (Nd Lf none (Nd Lf (some (dat 1 pre)) Lf)) none Lf))) none (Nd (Nd (Nd Lf none (Nd (Nd Lf (some (dat 1 cols)) Lf) none Lf)) (some (.string c)) Lf) none (Nd (Nd Lf none (Nd (Nd Lf (some (.int .i64 i)) Lf) none Lf)) none (Nd (Nd Lf none (Nd Lf (some (.int .i64 pre.length)) Lf)) none Lf))))
def frG3 (rows : List Value) (i : Nat) : T Value := (Nd (Nd (Nd Lf none (Nd (Nd (Nd (Nd Lf (some (.int .i64 i)) Lf) none Lf) none Lf) none Lf)) (some (.pointer (some ⟨0, 0, none⟩))) (Nd (Nd (Nd (Nd (Nd Lf (some (dat 1 rows)) Lf) none Lf) none Lf) none Lf) none Lf)) none (Nd Lf none (Nd (Nd (Nd (Nd (Nd Lf (some (.int .i64 rows.length)) Lf) none Lf) none Lf) none Lf) none Lf)))
def frG4 (rows : List Value) (i : Nat) (r : List Value) (j : Nat) : T Value := (Nd (Nd (Nd (Nd (Nd Lf none (Nd (Nd Lf (some (.int .i64 j)) Lf) none Lf)) none Lf) none (Nd (Nd (Nd (Nd Lf (some (.int .i64 i)) Lf) none Lf) none Lf) none Lf)) (some (.pointer (some ⟨0, 0, none⟩))) (Nd (Nd (Nd (Nd (Nd Lf (some (dat 1 rows)) Lf) none Lf) none Lf) none Lf) none (Nd Lf none (Nd (Nd (Nd Lf (some (dat 1 r)) Lf) none Lf) none Lf)))) none (Nd Lf none (Nd (Nd (Nd (Nd (Nd Lf (some (.int .i64 rows.length)) Lf) none Lf) none Lf) none Lf) none (Nd Lf none (Nd (Nd (Nd Lf (some (.int .i64 r.length)) Lf) none Lf) none Lf)))))
def ntG : Nat := Func.ntmps f24
def bdG : Code := ac f24
def iP (K : KV) : KX := finK XG.E (f24.results).toList K
def jFf (K : KV) (n : SB) (m : Int) (cols rows : List Value) : Prop := aG XG 1 f24 [fdv n m cols rows] ⟨.leaf, 0⟩ K
def cG1 : Code := aF (subC [1, 1, 1, 1, 0, 1, 0] bdG)
def kG1 (K : KV) (again : KF) : KX := cv XG 1 ntG ⟨.leaf, 0⟩ bdG [1, 1, 1, 1, 0, 1, 0] (iP K) [] [] [42] [1, 40, 41, 42] again
def jFf1 (K : KV) (again : KF) (n : SB) (m : Int) (cols rows : List Value) (i : Nat) : Prop := au XG 1 ntG ⟨.leaf, 0⟩ bdG [1, 1, 1, 1, 0, 1, 0] (iP K) [] [] [42] [1, 40, 41, 42] again (frG1 cols i) (hF0 n m cols rows)
def jFf2 (K : KV) (again0 again : KF) (n : SB) (m : Int) (cols rows : List Value) (i : Nat) (c : SB) (pre : List Value) (j : Nat) : Prop := au XG 1 ntG ⟨.leaf, 0⟩ cG1 [1, 1, 0, 0, 1, 1, 1, 0] (kG1 K again0) [] [] [42] [1, 4, 40, 41, 42, 53, 54, 55] again (frG2 cols i c pre j) (hF0 n m cols rows)
def cG3 : Code := aF (subC [1, 1, 1, 1, 1, 0, 1, 0] bdG)
def kG3 (K : KV) (again : KF) : KX := cv XG 1 ntG ⟨.leaf, 0⟩ bdG [1, 1, 1, 1, 1, 0, 1, 0] (iP K) [] [] [42] [1, 65, 66, 67] again
def jFf3 (K : KV) (again : KF) (n : SB) (m : Int) (cols rows : List Value) (i : Nat) : Prop := au XG 1 ntG ⟨.leaf, 0⟩ bdG [1, 1, 1, 1, 1, 0, 1, 0] (iP K) [] [] [42] [1, 65, 66, 67] again (frG3 rows i) (hF0 n m cols rows)
def jFf4 (K : KV) (again0 again : KF) (n : SB) (m : Int) (cols rows : List Value) (i : Nat) (r : List Value) (j : Nat) : Prop := au XG 1 ntG ⟨.leaf, 0⟩ cG3 [1, 1, 0, 0, 1, 1, 1, 0] (kG3 K again0) [] [] [42] [1, 65, 66, 67, 77, 78, 79] again (frG4 rows i r j) (hF0 n m cols rows)
end
end Go.T9
