/- A part of the proof. -/
import Derived.Test.YtgbjgffiejlooaaGreatDoorU2
import Derived.KernelRfl
import Derived.Test.YtgbjgffiejlooaaGreatDoorY2
set_option linter.unusedVariables false
set_option linter.unusedSimpArgs false
set_option maxRecDepth 1000000
set_option maxHeartbeats 4000000
namespace Go.T9
open Go Go.AM Go.MK
noncomputable section
def dl (l : List SB) : List (List UInt8) := l.map fun s => s.data.toList
end
end Go.T9
set_option maxHeartbeats 1000000
namespace Go.T9
open Go Go.AM Go.MK Go.Proofs.Tryz
noncomputable section
def tabCh (n : Nat) : Tab := [(16, aj (bj (lsP n)) (vMs n)), (17, aj (bj (lsP n)) (vCe n))]
theorem qz (m : Int) (n : Nat) : TabOk (envM m) (tabCh n) := .cons (toM (uy n)) (.cons (uB m n) .nil)
def XCh (m : Int) (n : Nat) : SX := ⟨envM m, tabCh n, noEl, fun _ => .unroll 0⟩
theorem XCh_ok (m : Int) (n : Nat) : (XCh m n).Ok := ⟨aE m, rfl, aF m, qz m n⟩
def tabRc (n : Nat) : Tab := [(18, aj (bj (lsP n)) (vCn n)), (19, aj (bj (lsP n)) (vLv n)), (20, aj (bj (lsP n)) (vSv n))]
theorem qh (m : Int) (n : Nat) : TabOk (envM m) (tabRc n) := .cons (toM (uA n)) (.cons (toM (uz n)) (.cons (uw m n) .nil))
def XRc (m : Int) (n : Nat) : SX := ⟨envM m, tabRc n, noEl, fun _ => .unroll 0⟩
theorem XRc_ok (m : Int) (n : Nat) : (XRc m n).Ok := ⟨aE m, rfl, aF m, qh m n⟩
def jC6 (m : Int) (n : Nat) (Q : Value → Prop) (QA : KV) (l : List Value) : Prop := ay (XCh m n) 1 f6 [dat 19 l] ⟨.leaf, 0⟩ (au Q QA)
def jRc (m : Int) (n : Nat) (Q : Value → Prop) (QA : KV) (l : List Value) : Prop := ay (XRc m n) 1 f7 [dat 19 l] ⟨.leaf, 0⟩ (au Q QA)
theorem jRc_nf (m : Int) (n : Nat) (Q : Value → Prop) (QA : KV) (l : List Value) : jRc m n Q QA l = (lsP n l ∧ Sp (decide (1000 < (↑(cN n l) : Int))) (Q (Vi 3)) (lsP n l ∧ Sp (decide (20 < mD n l)) (Q (Vi 3)) (lsP n l ∧ Q (Vi (cE n l))))) := by kernel_rfl
theorem jC6_nf (m : Int) (n : Nat) (Q : Value → Prop) (QA : KV) (l : List Value) : jC6 m n Q QA l = (lsP n l ∧ Sp (decide (1000 < (↑(mT n l) : Int))) (Q (Vi 3)) (Sp (decide (20 < mD n l)) (Q (Vi 3)) (lsP n l ∧ Q (Vi (cE n l))))) := by kernel_rfl
def chE (n : Nat) (l : List Value) : Int := bif decide ((1000 : Int) < (mT n l : Int)) then 3 else bif decide (20 < mD n l) then 3 else cE n l
theorem zH (m : Int) (n : Nat) (l : List Value) (h : lsP n l) : bt (envM m) f6 [dat 19 l] ⟨.leaf, 0⟩ (.int .i64 (chE n l)) := by
 refine ar (XCh_ok m n) (d := 1) (HFi _ _) ((jC6_nf m n _ _ l).mpr ⟨h, Sp.intro (fun c => ?_) (fun c => Sp.intro (fun c2 => ?_) (fun c2 => ⟨h, ?_⟩))⟩)
 · show Value.int _ _ = Value.int _ _
   unfold chE; rw [c]; rfl
 · show Value.int _ _ = Value.int _ _
   unfold chE; rw [c, c2]; rfl
 · show Value.int _ _ = Value.int _ _
   unfold chE; rw [c, c2]; rfl
theorem vV (m : Int) (n : Nat) (l : List Value) (h : lsP n l) : bt (envM m) f7 [dat 19 l] ⟨.leaf, 0⟩ (.int .i64 (chE n l)) := by
 refine ar (XRc_ok m n) (d := 1) (HFi _ _) ((jRc_nf m n _ _ l).mpr ⟨h, Sp.intro (fun c => ?_) (fun c => ⟨h, Sp.intro (fun c2 => ?_) (fun c2 => ⟨h, ?_⟩)⟩)⟩)
 · rw [kx] at c
   show Value.int _ _ = Value.int _ _
   unfold chE; rw [c]; rfl
 · rw [kx] at c
   show Value.int _ _ = Value.int _ _
   unfold chE; rw [c, c2]; rfl
 · rw [kx] at c
   show Value.int _ _ = Value.int _ _
   unfold chE; rw [c, c2]; rfl
theorem pS {n : Nat} {l : List Value} (h : lsP n l) : HF (dat 19 l) := by
 cases n with
 | zero => exact h.elim
 | succ n => exact cd h
def vCh (n : Nat) : List Value → Option Value := bn fun l => .int .i64 (chE n l)
theorem ch_tab (m : Int) (n : Nat) : ∀ args A p v A', aj (bj (lsP n)) (vCh n) args A = some (p, v, A') → PH p → an (envM m) 6 args A v A' := ai (aE m) (aF m) (fn := f6) rfl fun args v h hp => by
 unfold vCh bn at h
 split at h
 · simp only [osI] at h
   subst h
   exact ⟨HF.cons (pS hp) HF.nil, zH m n _ hp⟩
 · cases h
theorem rc_tab (m : Int) (n : Nat) : ∀ args A p v A', aj (bj (lsP n)) (vCh n) args A = some (p, v, A') → PH p → an (envM m) 7 args A v A' := ai (aE m) (aF m) (fn := f7) rfl fun args v h hp => by
 unfold vCh bn at h
 split at h
 · simp only [osI] at h
   subst h
   exact ⟨HF.cons (pS hp) HF.nil, vV m n _ hp⟩
 · cases h
end
end Go.T9
