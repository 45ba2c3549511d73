/- A part of the proof. -/
import Derived.Test.YtplabpmicdbglaaGreatDoorGa
import Derived.Test.YtplabpmicdbglaaGreatDoorL
import Derived.Test.YtplabpmicdbglaaGreatDoorRows
set_option maxRecDepth 1000000
namespace Go.T9
open Go Go.AM Go.FA Go.Proofs Go.Proofs.YtplabpmicdbglaaGreatDoor
theorem heapL5 (os : Os) : (World.holding Proofs.Tryz.prog os ⟨#[], #[], []⟩).heap.size = 18 := by kernel_rfl
theorem names774 : ((List.range 774).all fun u => !mayBe (infoF Proofs.Tryz.prog nT tiF) ("*" ++ "errors.errorString") "errors.errorString" u) = true := by kernel_rfl
theorem name774 : (Proofs.Tryz.prog.typeName? 3 774 == some ("*" ++ "errors.errorString")) = true := by kernel_rfl
theorem star774 : "*" ++ "errors.errorString" = "*errors.errorString" := by decide
theorem find774 : findN Proofs.Tryz.prog "*errors.errorString" = some 774 := (congrArg (findN Proofs.Tryz.prog) star774).symm.trans (find_of hT.2 hT.1 774 rfl names774 name774)
noncomputable def xL5_0 (n : Nat) : List Value × List Obj := ([.pointer (some ⟨n, 0, none⟩)], [.cells #[.string ⟨#[105, 110, 118, 97, 108, 105, 100, 32, 115, 121, 110, 116, 97, 120]⟩] 776])
noncomputable def yL5_0 (n : Nat) : List Value × List Obj := ([.iface 774 (.pointer (some ⟨n, 0, none⟩))], (xL5_0 n).2)
theorem layL5_0 (n : Nat) : DataW.lay Proofs.Tryz.prog 391 n (.iface "*errors.errorString" (.ptr (.agg [.lit (.string [105, 110, 118, 97, 108, 105, 100, 32, 115, 121, 110, 116, 97, 120])]))) = some (yL5_0 n) :=
  lay_iface (P := Proofs.Tryz.prog) (t := 391) (u := 774) (n := n) (d := .ptr (.agg [.lit (.string [105, 110, 118, 97, 108, 105, 100, 32, 115, 121, 110, 116, 97, 120])])) (x := xL5_0 n) (v := .pointer (some ⟨n, 0, none⟩)) (by kernel_rfl) find774 (by kernel_rfl) (by kernel_rfl)
noncomputable def xL5_1 (n : Nat) : List Value × List Obj := ([.pointer (some ⟨n, 0, none⟩)], [.cells #[.string ⟨#[118, 97, 108, 117, 101, 32, 111, 117, 116, 32, 111, 102, 32, 114, 97, 110, 103, 101]⟩] 776])
noncomputable def yL5_1 (n : Nat) : List Value × List Obj := ([.iface 774 (.pointer (some ⟨n, 0, none⟩))], (xL5_1 n).2)
theorem layL5_1 (n : Nat) : DataW.lay Proofs.Tryz.prog 391 n (.iface "*errors.errorString" (.ptr (.agg [.lit (.string [118, 97, 108, 117, 101, 32, 111, 117, 116, 32, 111, 102, 32, 114, 97, 110, 103, 101])]))) = some (yL5_1 n) :=
  lay_iface (P := Proofs.Tryz.prog) (t := 391) (u := 774) (n := n) (d := .ptr (.agg [.lit (.string [118, 97, 108, 117, 101, 32, 111, 117, 116, 32, 111, 102, 32, 114, 97, 110, 103, 101])])) (x := xL5_1 n) (v := .pointer (some ⟨n, 0, none⟩)) (by kernel_rfl) find774 (by kernel_rfl) (by kernel_rfl)
noncomputable def errsL5 (n : Nat) : List (Nat × List Value) × List Obj := ((11, (yL5_0 (n)).1) :: (12, (yL5_1 (n + 1)).1) :: [], (yL5_0 (n)).2 ++ ((yL5_1 (n + 1)).2 ++ ([])))
theorem lay_noneL5 (n : Nat) : Lay.layList Proofs.Tryz.prog n [] = some ([], []) := by simp only [Lay.layList]
theorem lay_errsL5 (n : Nat) : Lay.layList Proofs.Tryz.prog n [("strconv.ErrSyntax", Rows.laid_strconv_ErrSyntax), ("strconv.ErrRange", Rows.laid_strconv_ErrRange)] = some (errsL5 n) := layList_one (P := Proofs.Tryz.prog) (n := n) (g := 11) (gl := ⟨ "strconv.ErrSyntax", 391, none⟩) (x := ("strconv.ErrSyntax", Rows.laid_strconv_ErrSyntax)) (y := yL5_0 (n)) (by kernel_rfl) (by kernel_rfl) (layL5_0 (n)) (layList_one (P := Proofs.Tryz.prog) (n := n + 1) (g := 12) (gl := ⟨ "strconv.ErrRange", 391, none⟩) (x := ("strconv.ErrRange", Rows.laid_strconv_ErrRange)) (y := yL5_1 (n + 1)) (by kernel_rfl) (by kernel_rfl) (layL5_1 (n + 1)) (lay_noneL5 _))
noncomputable def yAllL5 : Option (List (Nat × List Value) × List Obj) := (Lay.layList Proofs.Tryz.prog 18 (Rows.worldAreaIsTimeSpentRow.laid.take 8)).bind fun y => some (y.1 ++ (errsL5 (18 + y.2.length)).1, y.2 ++ (errsL5 (18 + y.2.length)).2)
theorem yAll_eqL5 : Lay.layList Proofs.Tryz.prog 18 Rows.worldAreaIsTimeSpentRow.laid = yAllL5 := by
  refine (congrArg (Lay.layList Proofs.Tryz.prog 18) (List.take_append_drop 8 Rows.worldAreaIsTimeSpentRow.laid).symm).trans ((layList_append _ _ _ _).trans ?_)
  refine congrArg (Option.bind _) (funext fun y => ?_)
  exact congrArg (Option.map _) (lay_errsL5 (18 + y.2.length))
end Go.T9
