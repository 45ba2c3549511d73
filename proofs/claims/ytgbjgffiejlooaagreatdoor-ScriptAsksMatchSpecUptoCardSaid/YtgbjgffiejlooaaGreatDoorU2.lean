/- A part of the proof. -/
import Derived.Test.YtgbjgffiejlooaaGreatDoorU1
import Derived.KernelRfl
set_option linter.unusedVariables false
set_option linter.unusedSimpArgs false
set_option maxRecDepth 1000000
set_option maxHeartbeats 4000000
namespace Go.T9
open Go Go.AM Go.MK Go.Proofs.Tryz
noncomputable section
def jRl (K : KV) (c : Int) : Prop := sxFn XJ0 1 f45 [.int .u8 c] K
theorem jRl_nf (K : KV) (c : Int) : jRl K c = (Sp (decide (97 ≤ c)) (Sp (decide (c ≤ 122)) (K (Vb true) (AH.mk Lf 0)) (Sp (decide (65 ≤ c)) (K (Vb (decide (c ≤ 90))) (AH.mk Lf 0)) (K (Vb false) (AH.mk Lf 0)))) (Sp (decide (65 ≤ c)) (K (Vb (decide (c ≤ 90))) (AH.mk Lf 0)) (K (Vb false) (AH.mk Lf 0)))) := by kernel_rfl
theorem vN (c : Int) : Walk env f45 [.int .u8 c] (.bool (lB c)) := by
 refine be uq (d := 1) ((jRl_nf _ c).mpr ?_)
 unfold lB
 cases decide (97 ≤ c) <;> cases decide (c ≤ 122) <;> cases decide (65 ≤ c) <;> cases decide (c ≤ 90) <;> exact Frz.same (HFb _)
theorem tg : Con env 45 (ck lbX) := dY env_ok cU (fn := f45) rfl fun args v h => by
 unfold lbX at h
 split at h
 · simp only [osI] at h
   subst h
   exact ⟨HF.cons (.scal rfl) HF.nil, vN _⟩
 · cases h
def tabK1 : Tab := [(45, aj (fun _ => none) lbX)]
theorem qo : TabOk env tabK1 := .cons (dI tg) .nil
def XK1 : SX := ⟨env, tabK1, noEl, fun _ => .unroll 0⟩
theorem XK1_ok : XK1.Ok := ⟨env_ok, gn, cU, qo⟩
def jRw (K : KV) (c : Int) : Prop := sxFn XK1 3 f44 [.int .u8 c] K
theorem jRw_nf (K : KV) (c : Int) : jRw K c = (Sp (lB c) (K (Vb true) (AH.mk Lf 0)) (Sp (decide (48 ≤ c)) (Sp (decide (c ≤ 57)) (K (Vb true) (AH.mk Lf 0)) (Sp (decide (c = 95)) (K (Vb true) (AH.mk Lf 0)) (K (Vb (decide (c = 45))) (AH.mk Lf 0)))) (Sp (decide (c = 95)) (K (Vb true) (AH.mk Lf 0)) (K (Vb (decide (c = 45))) (AH.mk Lf 0))))) := by kernel_rfl
theorem vL (c : Int) : Walk env f44 [.int .u8 c] (.bool (wB c)) := by
 refine be XK1_ok (d := 3) ((jRw_nf _ c).mpr ?_)
 unfold wB dB
 cases lB c <;> cases decide (48 ≤ c) <;> cases decide (c ≤ 57) <;> cases decide (c = 95) <;> cases decide (c = 45) <;> exact Frz.same (HFb _)
theorem rw_con : Con env 44 (ck wbX) := dY env_ok cU (fn := f44) rfl fun args v h => by
 unfold wbX at h
 split at h
 · simp only [osI] at h
   subst h
   exact ⟨HF.cons (.scal rfl) HF.nil, vL _⟩
 · cases h
def tabK2 : Tab := [(45, aj (fun _ => none) lbX), (44, aj (fun _ => none) wbX)]
theorem qn : TabOk env tabK2 := .cons (dI tg) (.cons (dI rw_con) .nil)
def XK2 : SX := ⟨env, tabK2, noEl, fun _ => .auto [] [0, 3]⟩
theorem up : XK2.Ok := ⟨env_ok, gn, cU, qn⟩
def frIs (s : ByteArray) (i : Nat) : T Value := (Nd (Nd (Nd Lf (some (.int .i64 i)) Lf) none Lf) (some (.string s)) Lf)
def jIs (Q : Value → Prop) (QA : KV) (s : ByteArray) : Prop := sxFn XK2 1 f23 [.string s] (au Q QA)
def jIs1 (Q : Value → Prop) (QA : KV) (again : KF) (s : ByteArray) (i : Nat) : Prop := bJ XK2 1 f23 [1, 0, 1, 0] (au Q QA) [] [0, 3] again (frIs s i) ⟨.leaf, 0⟩
theorem jIs_nf (Q : Value → Prop) (QA : KV) (s : ByteArray) : jIs Q QA s = (LAt XK2 1 f23.ntmps (ae f23) [1, 0, 1, 0] (finK (SX.E XK2) f23.results.toList (au Q QA)) (Ns (No (Sg (Vi 0)) Lf) (Vs s) Lf) (AH.mk Lf 0)) := by kernel_rfl
theorem yb (Q : Value → Prop) (QA : KV) (again : KF) (s : ByteArray) (i : Nat) : jIs1 Q QA again s i = (Sp (decide ((i : Int) < (s.size : Int))) ((0 ≤ (i : Int) ∧ (i : Int) < (s.size : Int)) ∧ Sp (!wB (ac s i)) (Q (Vb false)) (again (Ns (No (Sg (Vi (Wi ((i : Int) + 1)))) Lf) (Vs s) Lf) (AH.mk Lf 0))) (Sp (decide (1 ≤ (s.size : Int))) (Sp (decide ((s.size : Int) ≤ 50)) (((0 : Int) ≤ (0 : Int) ∧ 0 < (s.size : Int)) ∧ Q (Vb (lB (ac s 0)))) (Q (Vb false))) (Q (Vb false)))) := by kernel_rfl
theorem yQ (Q : Value → Prop) (QA : KV) (s : ByteArray) (hs : s.size < 9223372036854775808) (hQ : Q (.bool (aJ s))) :
 LAt XK2 1 (Func.ntmps f23) (ae f23) [1, 0, 1, 0] (finK XK2.E (f23.results).toList (au Q QA)) (frIs s 0) ⟨.leaf, 0⟩ := by
 have hsz : s.data.toList.length = s.size := by simp
 refine LAt.stepA up [] [0, 3] (by kernel_rfl) (fun k F A => ∃ i : Nat, F = frIs s i ∧ A = ⟨.leaf, 0⟩ ∧ i + k = s.size ∧ s.data.toList.all (fun b => wB b.toNat) = (s.data.toList.drop i).all (fun b => wB b.toNat)) ?_ (k := s.size) ⟨0, rfl, rfl, by simp, by simp⟩
 rintro k F A ⟨i, rfl, rfl, hk, hall⟩
 refine (yb _ _ _ s i).mpr ?_
 refine Sp.intro (fun c => ?_) (fun c => ?_)
 · have hlt : i < s.size := by simpa using c
   have hl : i < s.data.toList.length := by omega
   have hw := i64s i (by omega)
   rw [List.drop_eq_getElem_cons hl, List.all_cons] at hall
   simp only [aK hl, hw]
   refine ⟨by omega, Sp.intro (fun h => ?_) (fun h => ⟨k - 1, by omega, i + 1, rfl, by first | trivial | rfl, by omega, ?_⟩)⟩
   · have h0 : wB (s.data.toList[i].toNat : Int) = false := by simpa using h
     have : aJ s = false := by unfold aJ; rw [hall, h0]; rfl
     rw [this] at hQ; exact hQ
   · have h0 : wB (s.data.toList[i].toNat : Int) = true := by simpa using h
     rw [hall, h0]; rfl
 · have hn : s.data.toList.drop i = [] := List.drop_eq_nil_of_le (by simp at c; omega)
   rw [hn] at hall
   have hall : s.data.toList.all (fun b => wB b.toNat) = true := hall
   refine Sp.intro (fun h => Sp.intro (fun h2 => ?_) (fun h2 => ?_)) (fun h => ?_)
   · have h1 : 1 ≤ s.size := by simp at h; omega
     have e : aJ s = lB (ac s 0) := by unfold aJ; rw [hall]; simp [h1, show s.size ≤ 50 by simp at h2; omega]
     rw [e] at hQ
     exact ⟨by omega, hQ⟩
   · have e : aJ s = false := by unfold aJ; simp [show ¬ s.size ≤ 50 by simp at h2; omega]
     rw [e] at hQ; exact hQ
   · have e : aJ s = false := by unfold aJ; simp [show ¬ 1 ≤ s.size by simp at h; omega]
     rw [e] at hQ; exact hQ
theorem yP (s : ByteArray) (hs : s.size < 9223372036854775808) : Walk env f23 [.string s] (.bool (aJ s)) := by
 refine av up (d := 1) (HFb _) ((jIs_nf _ _ s).mpr ?_)
 exact yQ _ _ s hs rfl
theorem oO : ∀ args A p v A', aj bg nmX args A = some (p, v, A') → PH p → an env 23 args A v A' := ai env_ok cU (fn := f23) rfl fun args v h hp => by
 unfold nmX at h
 split at h
 · simp only [osI] at h
   subst h
   exact ⟨HF.cons (.scal rfl) HF.nil, yP _ hp⟩
 · cases h
end
end Go.T9
