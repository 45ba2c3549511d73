/- A part of the proof. -/
import Derived.Test.YtdgjjfkjhikbaaaDoorX6
import Derived.Test.YtdgjjfkjhikbaaaDoorF
set_option linter.unusedVariables false
set_option linter.unusedSimpArgs false
set_option maxRecDepth 1000000
namespace Go.T9
open Go Go.AM Go.MK
noncomputable section
theorem twin : TwinE env env1 := ⟨env1_ok, rfl, fns_ok, rfl, fun σ h => h⟩
def jRd (Q : Value → AH → Prop) : Prop := cloF env env1 100000 28 [.string (mkBytes [97, 42, 98])] ⟨.leaf, 0⟩ (endF env ⟨.leaf, 0⟩ [] [] [] Q)
def exB : Value := .agg ⟨[.int .i64 4, .slice none 0 0, .int .i64 0, .int .i64 0, .slice (some ⟨0, 0, none⟩) 2 2]⟩
def exO : List AObj := [.cells [.int .i64 6, .slice none 0 0, .int .i64 0, .int .i64 (-1), .slice (some ⟨1, 0, none⟩) 1 1, .int .i64 3, .slice (some ⟨2, 0, none⟩) 1 unk, .int .i64 0, .int .i64 0, .slice none 0 0] 25, .cells [.int .i64 3, .slice (some ⟨3, 0, none⟩) 1 unk, .int .i64 0, .int .i64 0, .slice none 0 0] 25, .cells [.int .i64 98, .int .i64 98] 82, .cells [.int .i64 97, .int .i64 97] 82]
def hL0 : AH := heapN exO
def frL0 : T Value := (.node .leaf (some (exB)) .leaf)
def jL1 (K : KF) : Prop := cloV env env1 100000 (bodyOf Proofs.Tryd.f6) 9 (Func.ntmps Proofs.Tryd.f6) hL0 [2, 5, 6, 7, 8, 13] frL0 hL0 K
end
end Go.T9
