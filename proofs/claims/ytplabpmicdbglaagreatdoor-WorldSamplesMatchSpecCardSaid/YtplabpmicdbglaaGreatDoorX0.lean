/- A part of the proof. -/
import Derived.Test.YtplabpmicdbglaaGreatDoorR
import Derived.Test.YtplabpmicdbglaaGreatDoorF
import Derived.KernelRfl
set_option maxRecDepth 1000000
set_option linter.unusedVariables false
set_option linter.unusedSimpArgs false
namespace Go.T9
open Go Go.AM
noncomputable section
/-! ### Numbers in decimal -/
def dig (n : Int) : UInt8 := UInt8.ofNat (48 + n.toNat)
def dec (n : Int) : ByteArray := bif decide (n < 10) then ⟨⟨[dig n]⟩⟩ else bif decide (n < 100) then ⟨⟨[dig (n / 10), dig (n % 10)]⟩⟩ else ⟨⟨[dig (n / 100), dig (n / 10 % 10), dig (n % 10)]⟩⟩
def okD (f : FuncId) (n : Nat) : Bool := match callF env1 (evN env1 100000) f [.int .i64 n] ⟨.leaf, 0⟩ with
  | some (.string s, _) => eqL s.data.toList (dec n).data.toList
  | _ => false
theorem okD_call {f : FuncId} {n : Nat} (h : okD f n = true) : ∃ k A', callF env1 (evN env1 k) f [.int .i64 n] ⟨.leaf, 0⟩ = some (.string (dec n), A') := by
  unfold okD at h
  split at h
  · rename_i s A' hc
    rw [eqL_iff] at h
    have : s = dec n := by
      rcases s with ⟨⟨l⟩⟩
      generalize dec (n : Int) = t at h
      rcases t with ⟨⟨l2⟩⟩
      exact congrArg (fun l => ByteArray.mk (Array.mk l)) h
    subst this
    exact ⟨_, A', hc⟩
  · cases h
/-- The numbers from m to m + k. -/
def allD (f : FuncId) : Nat → Nat → Bool
  | _, 0 => true
  | m, k + 1 => okD f m && allD f (m + 1) k
theorem allD_get {f : FuncId} : ∀ {k m n : Nat}, allD f m k = true → m ≤ n → n < m + k → okD f n = true
  | 0, m, n, _, h1, h2 => by omega
  | k + 1, m, n, h, h1, h2 => by
    simp only [allD, Bool.and_eq_true] at h
    by_cases e : n = m
    · subst e; exact h.1
    · exact allD_get h.2 (by omega) (by omega)
theorem allD_join {f : FuncId} : ∀ {k1 k2 m : Nat}, allD f m k1 = true → allD f (m + k1) k2 = true → allD f m (k1 + k2) = true
  | 0, k2, m, _, h => by simpa using h
  | k1 + 1, k2, m, h1, h2 => by
    simp only [allD, Bool.and_eq_true] at h1
    rw [show k1 + 1 + k2 = (k1 + k2) + 1 by omega]
    simp only [allD, Bool.and_eq_true]
    exact ⟨h1.1, allD_join h1.2 (by rw [show m + 1 + k1 = m + (k1 + 1) by omega]; exact h2)⟩
end
end Go.T9
