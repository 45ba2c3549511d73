/- A part of the proof. -/
import Derived.Test.YtdgjjfkjhikbaaaDoorGa
import Derived.Test.YtdgjjfkjhikbaaaDoorL
import Derived.Test.YtdgjjfkjhikbaaaDoorRows
set_option linter.unusedVariables false
set_option linter.unusedSimpArgs false
set_option maxRecDepth 1000000
namespace Go.T9
open Go Go.AM Go.FA Go.Proofs Go.Proofs.YtdgjjfkjhikbaaaDoor
theorem heapL4 (os : Os) : (World.holding Proofs.Tryd.prog os ⟨#[], #[], []⟩).heap.size = 7 := by kernel_rfl
noncomputable def errsL4 (n : Nat) : List (Nat × List Value) × List Obj := ([], [])
theorem lay_noneL4 (n : Nat) : Lay.layList Proofs.Tryd.prog n [] = some ([], []) := by simp only [Lay.layList]
theorem lay_errsL4 (n : Nat) : Lay.layList Proofs.Tryd.prog n [] = some (errsL4 n) := lay_noneL4 _
noncomputable def yAllL4 : Option (List (Nat × List Value) × List Obj) := (Lay.layList Proofs.Tryd.prog 7 (Rows.patternCoversMatchesSpecRow.laid.take 1)).bind fun y => some (y.1 ++ (errsL4 (7 + y.2.length)).1, y.2 ++ (errsL4 (7 + y.2.length)).2)
theorem yAll_eqL4 : Lay.layList Proofs.Tryd.prog 7 Rows.patternCoversMatchesSpecRow.laid = yAllL4 := by
 refine (congrArg (Lay.layList Proofs.Tryd.prog 7) (List.take_append_drop 1 Rows.patternCoversMatchesSpecRow.laid).symm).trans ((layList_append _ _ _ _).trans ?_)
 refine congrArg (Option.bind _) (funext fun y => ?_)
 exact congrArg (Option.map _) (lay_errsL4 (7 + y.2.length))
end Go.T9
