/- A part of the proof. -/
import Derived.Test.YtgbjgffiejlooaaGreatDoorY0
import Derived.Test.YtgbjgffiejlooaaGreatDoorF
import Derived.KernelRfl
set_option linter.unusedVariables false
set_option linter.unusedSimpArgs false
set_option maxRecDepth 1000000
namespace Go.T9
open Go Go.AM Go.Proofs.Tryz
noncomputable section
def lB (c : Int) : Bool := (decide (97 ≤ c) && decide (c ≤ 122)) || (decide (65 ≤ c) && decide (c ≤ 90))
def dB (c : Int) : Bool := decide (48 ≤ c) && decide (c ≤ 57)
def wB (c : Int) : Bool := (lB c || dB c) || (decide (c = 95) || decide (c = 45))
def XJ0 : SX := ⟨env, [], noEl, fun _ => .unroll 0⟩
theorem uq : XJ0.Ok := ⟨env_ok, gn, cU, .nil⟩
def jLt (K : KV) (c : Int) : Prop := sxFn XJ0 1 f43 [.int .u8 c] K
theorem jLt_nf (K : KV) (c : Int) : jLt K c = (Sp (decide (97 ≤ c)) (Sp (decide (c ≤ 122)) (K (Vb true) (AH.mk Lf 0)) (Sp (decide (65 ≤ c)) (K (Vb (decide (c ≤ 90))) (AH.mk Lf 0)) (K (Vb false) (AH.mk Lf 0)))) (Sp (decide (65 ≤ c)) (K (Vb (decide (c ≤ 90))) (AH.mk Lf 0)) (K (Vb false) (AH.mk Lf 0)))) := by kernel_rfl
theorem wJ (c : Int) : Walk env f43 [.int .u8 c] (.bool (lB c)) := by
 refine be uq (d := 1) ((jLt_nf _ c).mpr ?_)
 unfold lB
 cases decide (97 ≤ c) <;> cases decide (c ≤ 122) <;> cases decide (65 ≤ c) <;> cases decide (c ≤ 90) <;> exact Frz.same (HFb _)
def lbX : List Value → Option Value
 | [.int .u8 c] => some (.bool (lB c))
 | _ => none
theorem tz : Con env 43 (ck lbX) := dY env_ok cU (fn := f43) rfl fun args v h => by
 unfold lbX at h
 split at h
 · simp only [osI] at h
   subst h
   exact ⟨HF.cons (.scal rfl) HF.nil, wJ _⟩
 · cases h
def tabJ1 : Tab := [(43, aj (fun _ => none) lbX)]
theorem qq : TabOk env tabJ1 := .cons (dI tz) .nil
def XJ1 : SX := ⟨env, tabJ1, noEl, fun _ => .unroll 0⟩
theorem XJ1_ok : XJ1.Ok := ⟨env_ok, gn, cU, qq⟩
def jIn1 (K : KV) (c : Int) : Prop := sxFn XJ1 3 f42 [.int .u8 c] K
theorem ye (K : KV) (c : Int) : jIn1 K c = (Sp (lB c) (K (Vb true) (AH.mk Lf 0)) (Sp (decide (48 ≤ c)) (Sp (decide (c ≤ 57)) (K (Vb true) (AH.mk Lf 0)) (Sp (decide (c = 95)) (K (Vb true) (AH.mk Lf 0)) (K (Vb (decide (c = 45))) (AH.mk Lf 0)))) (Sp (decide (c = 95)) (K (Vb true) (AH.mk Lf 0)) (K (Vb (decide (c = 45))) (AH.mk Lf 0))))) := by kernel_rfl
theorem yS (c : Int) : Walk env f42 [.int .u8 c] (.bool (wB c)) := by
 refine be XJ1_ok (d := 3) ((ye _ c).mpr ?_)
 unfold wB dB
 cases lB c <;> cases decide (48 ≤ c) <;> cases decide (c ≤ 57) <;> cases decide (c = 95) <;> cases decide (c = 45) <;> exact Frz.same (HFb _)
def wbX : List Value → Option Value
 | [.int .u8 c] => some (.bool (wB c))
 | _ => none
theorem in_con : Con env 42 (ck wbX) := dY env_ok cU (fn := f42) rfl fun args v h => by
 unfold wbX at h
 split at h
 · simp only [osI] at h
   subst h
   exact ⟨HF.cons (.scal rfl) HF.nil, yS _⟩
 · cases h
def tabJ2 : Tab := [(43, aj (fun _ => none) lbX), (42, aj (fun _ => none) wbX)]
theorem qp : TabOk env tabJ2 := .cons (dI tz) (.cons (dI in_con) .nil)
def XJ : SX := ⟨env, tabJ2, noEl, fun _ => .auto [] [0, 5, 6]⟩
theorem XJ_ok : XJ.Ok := ⟨env_ok, gn, cU, qp⟩
def frNm (s : ByteArray) (i : Nat) : T Value := (Nd (Nd Lf none (Nd Lf (some (.int .i64 s.size)) Lf)) (some (.string s)) (Nd Lf none (Nd Lf (some (.int .i64 i)) Lf)))
def jNm (Q : Value → Prop) (QA : KV) (s : ByteArray) : Prop := sxFn XJ 1 f21 [.string s] (au Q QA)
def jNm1 (Q : Value → Prop) (QA : KV) (again : KF) (s : ByteArray) (i : Nat) : Prop := bJ XJ 1 f21 [1, 0, 1, 0] (au Q QA) [] [0, 5, 6] again (frNm s i) ⟨.leaf, 0⟩
def aJ (s : ByteArray) : Bool := s.data.toList.all (fun b => wB b.toNat) && (decide (1 ≤ s.size) && decide (s.size ≤ 50) && lB (ac s 0))
theorem jNm_nf (Q : Value → Prop) (QA : KV) (s : ByteArray) : jNm Q QA s = (LAt XJ 1 f21.ntmps (ae f21) [1, 0, 1, 0] (finK (SX.E XJ) f21.results.toList (au Q QA)) (Ns (No Lf (Sg (Vi s.size))) (Vs s) (No Lf (Sg (Vi 0)))) (AH.mk Lf 0)) := by kernel_rfl
theorem xX (Q : Value → Prop) (QA : KV) (again : KF) (s : ByteArray) (i : Nat) : jNm1 Q QA again s i = (Sp (decide ((i : Int) < (s.size : Int))) ((0 ≤ (i : Int) ∧ (i : Int) < (s.size : Int)) ∧ Sp (!wB (ac s i)) (Q (Vb false)) (again (Ns (No Lf (Sg (Vi s.size))) (Vs s) (No Lf (Sg (Vi (Wi ((i : Int) + 1)))))) (AH.mk Lf 0))) (Sp (!eqL s.data.toList (ByteArray.mk #[]).data.toList) (Sp (decide ((s.size : Int) ≤ 50)) (((0 : Int) ≤ (0 : Int) ∧ 0 < (s.size : Int)) ∧ Q (Vb (lB (ac s 0)))) (Q (Vb false))) (Q (Vb false)))) := by kernel_rfl
theorem aK {s : ByteArray} {i : Nat} (h : i < s.data.toList.length) : ac s (i : Int) = (s.data.toList[i].toNat : Int) := by
 simp only [ac, Int.toNat_natCast, aI, List.getElem?_eq_getElem h]
theorem wv (Q : Value → Prop) (QA : KV) (s : ByteArray) (hs : s.size < 9223372036854775808) (hQ : Q (.bool (aJ s))) :
 LAt XJ 1 (Func.ntmps f21) (ae f21) [1, 0, 1, 0] (finK XJ.E (f21.results).toList (au Q QA)) (frNm s 0) ⟨.leaf, 0⟩ := by
 have hsz : s.data.toList.length = s.size := by simp
 refine LAt.stepA XJ_ok [] [0, 5, 6] (by kernel_rfl) (fun k F A => ∃ i : Nat, F = frNm s i ∧ A = ⟨.leaf, 0⟩ ∧ i + k = s.size ∧ s.data.toList.all (fun b => wB b.toNat) = (s.data.toList.drop i).all (fun b => wB b.toNat)) ?_ (k := s.size) ⟨0, rfl, rfl, by simp, by simp⟩
 rintro k F A ⟨i, rfl, rfl, hk, hall⟩
 refine (xX _ _ _ s i).mpr ?_
 refine Sp.intro (fun c => ?_) (fun c => ?_)
 · have hlt : i < s.size := by simpa using c
   have hl : i < s.data.toList.length := by omega
   have hw := i64s i (by omega)
   rw [List.drop_eq_getElem_cons hl, List.all_cons] at hall
   simp only [aK hl, hw]
   refine ⟨by omega, Sp.intro (fun h => ?_) (fun h => ⟨k - 1, by omega, i + 1, rfl, by first | trivial | rfl, by omega, ?_⟩)⟩
   · have h0 : wB (s.data.toList[i].toNat : Int) = false := by simpa using h
     have : aJ s = false := by unfold aJ; rw [hall, h0]; rfl
     rw [this] at hQ; exact hQ
   · have h0 : wB (s.data.toList[i].toNat : Int) = true := by simpa using h
     rw [hall, h0]; rfl
 · have hn : s.data.toList.drop i = [] := List.drop_eq_nil_of_le (by simp at c; omega)
   rw [hn] at hall
   have hall : s.data.toList.all (fun b => wB b.toNat) = true := hall
   refine Sp.intro (fun h => Sp.intro (fun h2 => ?_) (fun h2 => ?_)) (fun h => ?_)
   · have h1 : 1 ≤ s.size := by
      rcases hp : s.data.toList with _ | ⟨x, l⟩
      · rw [hp] at h; simp [eqL] at h
      · rw [hp] at hsz; simp at hsz; omega
     have e : aJ s = lB (ac s 0) := by unfold aJ; rw [hall]; simp [h1, show s.size ≤ 50 by simp at h2; omega]
     rw [e] at hQ
     exact ⟨by omega, hQ⟩
   · have e : aJ s = false := by unfold aJ; simp [show ¬ s.size ≤ 50 by simp at h2; omega]
     rw [e] at hQ; exact hQ
   · have e : aJ s = false := by
      rcases hp : s.data.toList with _ | ⟨x, l⟩
      · unfold aJ; rw [hp] at hsz; simp [show s.size = 0 by simp at hsz; omega]
      · rw [hp] at h; simp [eqL] at h
     rw [e] at hQ; exact hQ
theorem wu (s : ByteArray) (hs : s.size < 9223372036854775808) : Walk env f21 [.string s] (.bool (aJ s)) := by
 refine av XJ_ok (d := 1) (HFb _) ((jNm_nf _ _ s).mpr ?_)
 exact wv _ _ s hs rfl
def nmX : List Value → Option Value
 | [.string s] => some (.bool (aJ s))
 | _ => none
def bg : List Value → Option Prop
 | [.string s] => some (s.size < 9223372036854775808)
 | _ => none
theorem oc : ∀ args A p v A', aj bg nmX args A = some (p, v, A') → PH p → an env 21 args A v A' := ai env_ok cU (fn := f21) rfl fun args v h hp => by
 unfold nmX at h
 split at h
 · simp only [osI] at h
   subst h
   exact ⟨HF.cons (.scal rfl) HF.nil, wu _ hp⟩
 · cases h
end
end Go.T9
namespace Go.T9
open Go Go.AM Go.MK
noncomputable section
abbrev SB := ByteArray
abbrev MB := List (List UInt8 × Bool)
abbrev AQ := List (Value × Value × Nat)
def vS : Value → List UInt8
 | .string s => s.data.toList
 | _ => []
def kS (l : List UInt8) : Value := .string (aa l)
def vBo : Value → Bool
 | .bool b => b
 | _ => false
def enB (m : MB) : AQ := ents kS Value.bool m
def mhB (es : AQ) (k : Value) : Bool := (aget (inv vS vBo es) (vS k)).isSome
def bY (els : List Value) (i : Int) : List Value := match nth els i.toNat with | some (.func _ ⟨l⟩ _) => l | _ => []
def fdC (n : SB) (m : Int) (cols rows : List Value) : AObj := .cells [.string n, .int .i64 m, dat 1 cols, dat 1 rows] 42
def hF1 (n : SB) (m : Int) (cols rows : List Value) (es : AQ) (c : Nat) : AH := ⟨Nd (Nd Lf (some (.map es c)) Lf) (some (fdC n m cols rows)) Lf, 2⟩
set_option maxHeartbeats 4000000
theorem kf (a b : List UInt8) : eqL a b = decide (a = b) := by
 cases h : eqL a b with
 | true => simp [(cz a b).1 h]
 | false =>
   by_cases e : a = b
   · rw [(cz a b).2 e] at h; cases h
   · simp [e]
theorem koS : KeyOk env 39 9 4 kS (.bool false) := ⟨by kernel_rfl, fun _ => rfl, fun emp k => by cases emp <;> kernel_rfl, ⟨.string, by kernel_rfl, .inl fun a b => by
 show some (eqL a b) = _
 rw [kf]⟩, fun k => by simp [kS, Instr.sameBits, gr, (cz _ _).2 rfl], ⟨_, rfl, rfl, rfl⟩⟩
theorem invB (m : MB) : inv vS vBo (enB m) = m := rF (fun _ => rfl) (fun _ => rfl) m
theorem lookB (m : MB) (s : SB) : j2 env 39 (enB m) (.string s) = some (.bool ((aget m s.data.toList).getD false), mhB (enB m) (.string s)) := by
 refine (oy koS Value.bool s.data.toList m).trans ?_
 unfold mhB
 rw [invB]
 show _ = some (Value.bool ((aget m s.data.toList).getD false), (aget m s.data.toList).isSome)
 cases aget m s.data.toList <;> rfl
def seenF (cs : List SB) (i : Nat) : List (List UInt8) := (cs.take i).map fun s => s.data.toList
end
end Go.T9
