/- A part of the proof. -/
import Derived.Test.YtdoofogkkgpjiaaGreatDoorGa
import Derived.Test.YtdoofogkkgpjiaaGreatDoorL
import Derived.Test.YtdoofogkkgpjiaaGreatDoorRows
set_option maxRecDepth 1000000
namespace Go.T8
open Go Go.AM Go.FA Go.Proofs Go.Proofs.YtdoofogkkgpjiaaGreatDoor
theorem names710 : ((List.range 710).all fun u => !mayBe (infoF Tryz.prog nT tiF) ("*" ++ "errors.errorString") "errors.errorString" u) = true := by kernel_rfl
theorem name710 : (Tryz.prog.typeName? 3 710 == some ("*" ++ "errors.errorString")) = true := by kernel_rfl
theorem star710 : "*" ++ "errors.errorString" = "*errors.errorString" := by decide
theorem find710 : findN Tryz.prog "*errors.errorString" = some 710 := (congrArg (findN Tryz.prog) star710).symm.trans (find_of hT.2 hT.1 710 rfl names710 name710)
theorem heap0 (os : Os) : (World.holding Tryz.prog os ⟨#[], #[], []⟩).heap.size = 18 := by kernel_rfl
noncomputable def xSyn (n : Nat) : List Value × List Obj := ([.pointer (some ⟨n, 0, none⟩)], [.cells #[.string ⟨#[105, 110, 118, 97, 108, 105, 100, 32, 115, 121, 110, 116, 97, 120]⟩] 712])
noncomputable def ySyn (n : Nat) : List Value × List Obj := ([.iface 710 (.pointer (some ⟨n, 0, none⟩))], (xSyn n).2)
theorem lay_Syn (n : Nat) : DataW.lay Tryz.prog 109 n (.iface "*errors.errorString" (.ptr (.agg [.lit (.string [105, 110, 118, 97, 108, 105, 100, 32, 115, 121, 110, 116, 97, 120])]))) = some (ySyn n) :=
  lay_iface (P := Tryz.prog) (t := 109) (u := 710) (n := n) (d := .ptr (.agg [.lit (.string [105, 110, 118, 97, 108, 105, 100, 32, 115, 121, 110, 116, 97, 120])])) (x := xSyn n) (v := .pointer (some ⟨n, 0, none⟩)) (by kernel_rfl) find710 (by kernel_rfl) (by kernel_rfl)
noncomputable def xRan (n : Nat) : List Value × List Obj := ([.pointer (some ⟨n, 0, none⟩)], [.cells #[.string ⟨#[118, 97, 108, 117, 101, 32, 111, 117, 116, 32, 111, 102, 32, 114, 97, 110, 103, 101]⟩] 712])
noncomputable def yRan (n : Nat) : List Value × List Obj := ([.iface 710 (.pointer (some ⟨n, 0, none⟩))], (xRan n).2)
theorem lay_Ran (n : Nat) : DataW.lay Tryz.prog 109 n (.iface "*errors.errorString" (.ptr (.agg [.lit (.string [118, 97, 108, 117, 101, 32, 111, 117, 116, 32, 111, 102, 32, 114, 97, 110, 103, 101])]))) = some (yRan n) :=
  lay_iface (P := Tryz.prog) (t := 109) (u := 710) (n := n) (d := .ptr (.agg [.lit (.string [118, 97, 108, 117, 101, 32, 111, 117, 116, 32, 111, 102, 32, 114, 97, 110, 103, 101])])) (x := xRan n) (v := .pointer (some ⟨n, 0, none⟩)) (by kernel_rfl) find710 (by kernel_rfl) (by kernel_rfl)
noncomputable def errs (n : Nat) : List (Nat × List Value) × List Obj := ((11, (ySyn n).1) :: (12, (yRan (n + 1)).1) :: [], (ySyn n).2 ++ ((yRan (n + 1)).2 ++ []))
theorem lay_none (n : Nat) : Lay.layList Tryz.prog n [] = some ([], []) := by simp only [Lay.layList]
theorem lay_two (n : Nat) : Lay.layList Tryz.prog n [("strconv.ErrSyntax", Rows.laid_strconv_ErrSyntax), ("strconv.ErrRange", Rows.laid_strconv_ErrRange)] = some (errs n) :=
  layList_one (P := Tryz.prog) (n := n) (g := 11) (gl := ⟨ "strconv.ErrSyntax", 109, none⟩) (x := ("strconv.ErrSyntax", Rows.laid_strconv_ErrSyntax)) (y := ySyn n) (by kernel_rfl) (by kernel_rfl) (lay_Syn n)
    (layList_one (P := Tryz.prog) (n := n + 1) (g := 12) (gl := ⟨ "strconv.ErrRange", 109, none⟩) (x := ("strconv.ErrRange", Rows.laid_strconv_ErrRange)) (y := yRan (n + 1)) (r := []) (z := ([], [])) (by kernel_rfl) (by kernel_rfl) (lay_Ran (n + 1)) (lay_none _))
noncomputable def yAll : Option (List (Nat × List Value) × List Obj) := (Lay.layList Tryz.prog 18 (Rows.worldTravelMatchesSpecRow.laid.take 8)).bind fun y => some (y.1 ++ (errs (18 + y.2.length)).1, y.2 ++ (errs (18 + y.2.length)).2)
theorem yAll_eq : Lay.layList Tryz.prog 18 Rows.worldTravelMatchesSpecRow.laid = yAll := by
  refine (congrArg (Lay.layList Tryz.prog 18) (List.take_append_drop 8 Rows.worldTravelMatchesSpecRow.laid).symm).trans ((layList_append _ _ _ _).trans ?_)
  refine congrArg (Option.bind _) (funext fun y => ?_)
  exact congrArg (Option.map _) (lay_two (18 + y.2.length))
end Go.T8
