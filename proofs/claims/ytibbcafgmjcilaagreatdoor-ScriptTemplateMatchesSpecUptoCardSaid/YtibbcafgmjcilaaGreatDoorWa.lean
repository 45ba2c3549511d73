/- A part of the proof. -/
import Derived.Test.YtibbcafgmjcilaaGreatDoorGa
import Derived.Test.YtibbcafgmjcilaaGreatDoorL
import Derived.Test.YtibbcafgmjcilaaGreatDoorRows
set_option maxRecDepth 1000000
namespace Go.T9
open Go Go.AM Go.FA Go.Proofs Go.Proofs.YtibbcafgmjcilaaGreatDoor
theorem heapL5 (os : Os) : (World.holding Proofs.Tryz.prog os ⟨#[], #[], []⟩).heap.size = 16 := by kernel_rfl
theorem names327 : ((List.range 327).all fun u => !mayBe (infoF Proofs.Tryz.prog nT tiF) ("*" ++ "errors.errorString") "errors.errorString" u) = true := by kernel_rfl
theorem name327 : (Proofs.Tryz.prog.typeName? 3 327 == some ("*" ++ "errors.errorString")) = true := by kernel_rfl
theorem star327 : "*" ++ "errors.errorString" = "*errors.errorString" := by decide
theorem find327 : findN Proofs.Tryz.prog "*errors.errorString" = some 327 := (congrArg (findN Proofs.Tryz.prog) star327).symm.trans (find_of hT.2 hT.1 327 rfl names327 name327)
noncomputable def xL5_0 (n : Nat) : List Value × List Obj := ([.pointer (some ⟨n, 0, none⟩)], [.cells #[.string ⟨#[105, 110, 118, 97, 108, 105, 100, 32, 115, 121, 110, 116, 97, 120]⟩] 329])
noncomputable def yL5_0 (n : Nat) : List Value × List Obj := ([.iface 327 (.pointer (some ⟨n, 0, none⟩))], (xL5_0 n).2)
theorem layL5_0 (n : Nat) : DataW.lay Proofs.Tryz.prog 121 n (.iface "*errors.errorString" (.ptr (.agg [.lit (.string [105, 110, 118, 97, 108, 105, 100, 32, 115, 121, 110, 116, 97, 120])]))) = some (yL5_0 n) :=
  lay_iface (P := Proofs.Tryz.prog) (t := 121) (u := 327) (n := n) (d := .ptr (.agg [.lit (.string [105, 110, 118, 97, 108, 105, 100, 32, 115, 121, 110, 116, 97, 120])])) (x := xL5_0 n) (v := .pointer (some ⟨n, 0, none⟩)) (by kernel_rfl) find327 (by kernel_rfl) (by kernel_rfl)
noncomputable def xL5_1 (n : Nat) : List Value × List Obj := ([.pointer (some ⟨n, 0, none⟩)], [.cells #[.string ⟨#[118, 97, 108, 117, 101, 32, 111, 117, 116, 32, 111, 102, 32, 114, 97, 110, 103, 101]⟩] 329])
noncomputable def yL5_1 (n : Nat) : List Value × List Obj := ([.iface 327 (.pointer (some ⟨n, 0, none⟩))], (xL5_1 n).2)
theorem layL5_1 (n : Nat) : DataW.lay Proofs.Tryz.prog 121 n (.iface "*errors.errorString" (.ptr (.agg [.lit (.string [118, 97, 108, 117, 101, 32, 111, 117, 116, 32, 111, 102, 32, 114, 97, 110, 103, 101])]))) = some (yL5_1 n) :=
  lay_iface (P := Proofs.Tryz.prog) (t := 121) (u := 327) (n := n) (d := .ptr (.agg [.lit (.string [118, 97, 108, 117, 101, 32, 111, 117, 116, 32, 111, 102, 32, 114, 97, 110, 103, 101])])) (x := xL5_1 n) (v := .pointer (some ⟨n, 0, none⟩)) (by kernel_rfl) find327 (by kernel_rfl) (by kernel_rfl)
noncomputable def errsL5 (n : Nat) : List (Nat × List Value) × List Obj := ((6, (yL5_0 (n)).1) :: (7, (yL5_1 (n + 1)).1) :: [], (yL5_0 (n)).2 ++ ((yL5_1 (n + 1)).2 ++ ([])))
theorem lay_noneL5 (n : Nat) : Lay.layList Proofs.Tryz.prog n [] = some ([], []) := by simp only [Lay.layList]
theorem lay_errsL5 (n : Nat) : Lay.layList Proofs.Tryz.prog n [("strconv.ErrSyntax", Rows.laid_strconv_ErrSyntax), ("strconv.ErrRange", Rows.laid_strconv_ErrRange)] = some (errsL5 n) := layList_one (P := Proofs.Tryz.prog) (n := n) (g := 6) (gl := ⟨ "strconv.ErrSyntax", 121, none⟩) (x := ("strconv.ErrSyntax", Rows.laid_strconv_ErrSyntax)) (y := yL5_0 (n)) (by kernel_rfl) (by kernel_rfl) (layL5_0 (n)) (layList_one (P := Proofs.Tryz.prog) (n := n + 1) (g := 7) (gl := ⟨ "strconv.ErrRange", 121, none⟩) (x := ("strconv.ErrRange", Rows.laid_strconv_ErrRange)) (y := yL5_1 (n + 1)) (by kernel_rfl) (by kernel_rfl) (layL5_1 (n + 1)) (lay_noneL5 _))
noncomputable def yMidL5 (n : Nat) : Option (List (Nat × List Value) × List Obj) := (Lay.layList Proofs.Tryz.prog (n + (errsL5 n).2.length) (Rows.scriptTemplateMatchesSpecUptoRow.laid.drop 4)).map fun z => ((errsL5 n).1 ++ z.1, (errsL5 n).2 ++ z.2)
theorem yDropL5 : Rows.scriptTemplateMatchesSpecUptoRow.laid.drop 2 = [("strconv.ErrSyntax", Rows.laid_strconv_ErrSyntax), ("strconv.ErrRange", Rows.laid_strconv_ErrRange)] ++ Rows.scriptTemplateMatchesSpecUptoRow.laid.drop 4 := by kernel_rfl
theorem yMid_eqL5 (n : Nat) : Lay.layList Proofs.Tryz.prog n (Rows.scriptTemplateMatchesSpecUptoRow.laid.drop 2) = yMidL5 n := by
  rw [yDropL5, layList_append, lay_errsL5 n, Option.bind_some]
  unfold yMidL5
  with_reducible rfl
noncomputable def yAllL5 : Option (List (Nat × List Value) × List Obj) := (Lay.layList Proofs.Tryz.prog 16 (Rows.scriptTemplateMatchesSpecUptoRow.laid.take 2)).bind fun y => (yMidL5 (16 + y.2.length)).map fun z => (y.1 ++ z.1, y.2 ++ z.2)
theorem yAll_eqL5 : Lay.layList Proofs.Tryz.prog 16 Rows.scriptTemplateMatchesSpecUptoRow.laid = yAllL5 := by
  refine (congrArg (Lay.layList Proofs.Tryz.prog 16) (List.take_append_drop 2 Rows.scriptTemplateMatchesSpecUptoRow.laid).symm).trans ((layList_append _ _ _ _).trans ?_)
  refine congrArg (Option.bind _) (funext fun y => ?_)
  exact congrArg (Option.map _) (yMid_eqL5 (16 + y.2.length))
end Go.T9
