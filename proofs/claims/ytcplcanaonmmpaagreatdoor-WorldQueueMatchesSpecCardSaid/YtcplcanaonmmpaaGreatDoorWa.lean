/- A part of the proof. -/
import Derived.Test.YtcplcanaonmmpaaGreatDoorGa
import Derived.Test.YtcplcanaonmmpaaGreatDoorL
import Derived.Test.YtcplcanaonmmpaaGreatDoorRows
set_option linter.unusedVariables false
set_option linter.unusedSimpArgs false
set_option maxRecDepth 1000000
namespace Go.T9
open Go Go.AM Go.FA Go.Proofs Go.Proofs.YtcplcanaonmmpaaGreatDoor
theorem heapL7 (os : Os) : (World.holding Proofs.Tryz.prog os ⟨#[], #[], []⟩).heap.size = 18 := by kernel_rfl
theorem names753 : ((List.range 753).all fun u => !mayBe (infoF Proofs.Tryz.prog nT tiF) ("*" ++ "errors.errorString") "errors.errorString" u) = true := by kernel_rfl
theorem name753 : (Proofs.Tryz.prog.typeName? 3 753 == some ("*" ++ "errors.errorString")) = true := by kernel_rfl
theorem star753 : "*" ++ "errors.errorString" = "*errors.errorString" := by decide
theorem find753 : findN Proofs.Tryz.prog "*errors.errorString" = some 753 := (congrArg (findN Proofs.Tryz.prog) star753).symm.trans (find_of hT.2 hT.1 753 rfl names753 name753)
noncomputable def xL7_0 (n : Nat) : List Value × List Obj := ([.pointer (some ⟨n, 0, none⟩)], [.cells #[.string ⟨#[105, 110, 118, 97, 108, 105, 100, 32, 115, 121, 110, 116, 97, 120]⟩] 755])
noncomputable def yL7_0 (n : Nat) : List Value × List Obj := ([.iface 753 (.pointer (some ⟨n, 0, none⟩))], (xL7_0 n).2)
theorem layL7_0 (n : Nat) : DataW.lay Proofs.Tryz.prog 350 n (.iface "*errors.errorString" (.ptr (.agg [.lit (.string [105, 110, 118, 97, 108, 105, 100, 32, 115, 121, 110, 116, 97, 120])]))) = some (yL7_0 n) :=
 lay_iface (P := Proofs.Tryz.prog) (t := 350) (u := 753) (n := n) (d := .ptr (.agg [.lit (.string [105, 110, 118, 97, 108, 105, 100, 32, 115, 121, 110, 116, 97, 120])])) (x := xL7_0 n) (v := .pointer (some ⟨n, 0, none⟩)) (by kernel_rfl) find753 (by kernel_rfl) (by kernel_rfl)
noncomputable def xL7_1 (n : Nat) : List Value × List Obj := ([.pointer (some ⟨n, 0, none⟩)], [.cells #[.string ⟨#[118, 97, 108, 117, 101, 32, 111, 117, 116, 32, 111, 102, 32, 114, 97, 110, 103, 101]⟩] 755])
noncomputable def yL7_1 (n : Nat) : List Value × List Obj := ([.iface 753 (.pointer (some ⟨n, 0, none⟩))], (xL7_1 n).2)
theorem layL7_1 (n : Nat) : DataW.lay Proofs.Tryz.prog 350 n (.iface "*errors.errorString" (.ptr (.agg [.lit (.string [118, 97, 108, 117, 101, 32, 111, 117, 116, 32, 111, 102, 32, 114, 97, 110, 103, 101])]))) = some (yL7_1 n) :=
 lay_iface (P := Proofs.Tryz.prog) (t := 350) (u := 753) (n := n) (d := .ptr (.agg [.lit (.string [118, 97, 108, 117, 101, 32, 111, 117, 116, 32, 111, 102, 32, 114, 97, 110, 103, 101])])) (x := xL7_1 n) (v := .pointer (some ⟨n, 0, none⟩)) (by kernel_rfl) find753 (by kernel_rfl) (by kernel_rfl)
noncomputable def errsL7 (n : Nat) : List (Nat × List Value) × List Obj := ((11, (yL7_0 (n)).1) :: (12, (yL7_1 (n + 1)).1) :: [], (yL7_0 (n)).2 ++ ((yL7_1 (n + 1)).2 ++ ([])))
theorem lay_noneL7 (n : Nat) : Lay.layList Proofs.Tryz.prog n [] = some ([], []) := by simp only [Lay.layList]
theorem lay_errsL7 (n : Nat) : Lay.layList Proofs.Tryz.prog n [("strconv.ErrSyntax", Rows.laid_strconv_ErrSyntax), ("strconv.ErrRange", Rows.laid_strconv_ErrRange)] = some (errsL7 n) := layList_one (P := Proofs.Tryz.prog) (n := n) (g := 11) (gl := ⟨ "strconv.ErrSyntax", 350, none⟩) (x := ("strconv.ErrSyntax", Rows.laid_strconv_ErrSyntax)) (y := yL7_0 (n)) (by kernel_rfl) (by kernel_rfl) (layL7_0 (n)) (layList_one (P := Proofs.Tryz.prog) (n := n + 1) (g := 12) (gl := ⟨ "strconv.ErrRange", 350, none⟩) (x := ("strconv.ErrRange", Rows.laid_strconv_ErrRange)) (y := yL7_1 (n + 1)) (by kernel_rfl) (by kernel_rfl) (layL7_1 (n + 1)) (lay_noneL7 _))
noncomputable def yAllL7 : Option (List (Nat × List Value) × List Obj) := (Lay.layList Proofs.Tryz.prog 18 (Rows.worldQueueKeepsItsLimitsRow.laid.take 8)).bind fun y => some (y.1 ++ (errsL7 (18 + y.2.length)).1, y.2 ++ (errsL7 (18 + y.2.length)).2)
theorem yAll_eqL7 : Lay.layList Proofs.Tryz.prog 18 Rows.worldQueueKeepsItsLimitsRow.laid = yAllL7 := by
 refine (congrArg (Lay.layList Proofs.Tryz.prog 18) (List.take_append_drop 8 Rows.worldQueueKeepsItsLimitsRow.laid).symm).trans ((layList_append _ _ _ _).trans ?_)
 refine congrArg (Option.bind _) (funext fun y => ?_)
 exact congrArg (Option.map _) (lay_errsL7 (18 + y.2.length))
end Go.T9
