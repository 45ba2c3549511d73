/- A part of the proof. -/
import Derived.Test.YtibbcafgmjcilaaGreatDoorR
import Derived.Test.YtibbcafgmjcilaaGreatDoorC
import Derived.Test.YtibbcafgmjcilaaGreatDoorF
import Derived.KernelRfl
set_option maxRecDepth 1000000
set_option linter.unusedVariables false
set_option linter.unusedSimpArgs false
namespace Go.T9
open Go Go.AM
noncomputable section
theorem HFi (k : IntKind) (x : Int) : HF (.int k x) := .scal rfl
theorem HFb (b : Bool) : HF (.bool b) := .scal rfl
def dat (sz : Nat) (els : List Value) : Value := .func (.yield sz) ⟨els⟩ ⟨[]⟩
def noEl : El := .of fun _ _ _ _ => none
def walkP : List Value → Option Value
  | [] => some (.bool true)
  | _ => none
theorem walkP_con : Con env 10 (pureX walkP) := con_calls fun args v hv => by
  unfold walkP at hv
  split at hv
  · simp only [Option.some.injEq] at hv
    subst hv
    exact ⟨rfl, rfl, walked_true⟩
  · cases hv
end
end Go.T9
