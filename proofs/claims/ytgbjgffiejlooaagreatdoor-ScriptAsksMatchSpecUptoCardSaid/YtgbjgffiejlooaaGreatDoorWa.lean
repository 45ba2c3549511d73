/- A part of the proof. -/
import Derived.Test.YtgbjgffiejlooaaGreatDoorGa
import Derived.Test.YtgbjgffiejlooaaGreatDoorL
import Derived.Test.YtgbjgffiejlooaaGreatDoorRows
set_option linter.unusedVariables false
set_option linter.unusedSimpArgs false
set_option maxRecDepth 1000000
namespace Go.T9
open Go Go.AM Go.FA Go.Proofs Go.Proofs.YtgbjgffiejlooaaGreatDoor Go.Proofs.Tryz
theorem jk (os : Os) : (World.holding Proofs.Tryz.prog os ⟨#[], #[], []⟩).heap.size = 16 := by kernel_rfl
theorem ra : ((List.range 361).all fun u => !rc (rG Proofs.Tryz.prog nT tiF) ("*" ++ "errors.errorString") "errors.errorString" u) = true := by kernel_rfl
theorem wy : (Proofs.Tryz.prog.typeName? 3 361 == some ("*" ++ "errors.errorString")) = true := by kernel_rfl
theorem vx : "*" ++ "errors.errorString" = "*errors.errorString" := by decide
theorem pf : mM Proofs.Tryz.prog "*errors.errorString" = some 361 := (congrArg (mM Proofs.Tryz.prog) vx).symm.trans (zl hT.2 hT.1 361 rfl ra wy)
noncomputable def xL4_0 (n : Nat) : List Value × List Obj := ([.pointer (some ⟨n, 0, none⟩)], [.cells #[.string ⟨#[105, 110, 118, 97, 108, 105, 100, 32, 115, 121, 110, 116, 97, 120]⟩] 363])
noncomputable def pV (n : Nat) : List Value × List Obj := ([.iface 361 (.pointer (some ⟨n, 0, none⟩))], (xL4_0 n).2)
theorem wP (n : Nat) : DataW.lay Proofs.Tryz.prog 195 n (.iface "*errors.errorString" (.ptr (.agg [.lit (.string [105, 110, 118, 97, 108, 105, 100, 32, 115, 121, 110, 116, 97, 120])]))) = some (pV n) :=
 jg (P := Proofs.Tryz.prog) (t := 195) (u := 361) (n := n) (d := .ptr (.agg [.lit (.string [105, 110, 118, 97, 108, 105, 100, 32, 115, 121, 110, 116, 97, 120])])) (x := xL4_0 n) (v := .pointer (some ⟨n, 0, none⟩)) (by kernel_rfl) pf (by kernel_rfl) (by kernel_rfl)
noncomputable def xL4_1 (n : Nat) : List Value × List Obj := ([.pointer (some ⟨n, 0, none⟩)], [.cells #[.string ⟨#[118, 97, 108, 117, 101, 32, 111, 117, 116, 32, 111, 102, 32, 114, 97, 110, 103, 101]⟩] 363])
noncomputable def pU (n : Nat) : List Value × List Obj := ([.iface 361 (.pointer (some ⟨n, 0, none⟩))], (xL4_1 n).2)
theorem wO (n : Nat) : DataW.lay Proofs.Tryz.prog 195 n (.iface "*errors.errorString" (.ptr (.agg [.lit (.string [118, 97, 108, 117, 101, 32, 111, 117, 116, 32, 111, 102, 32, 114, 97, 110, 103, 101])]))) = some (pU n) :=
 jg (P := Proofs.Tryz.prog) (t := 195) (u := 361) (n := n) (d := .ptr (.agg [.lit (.string [118, 97, 108, 117, 101, 32, 111, 117, 116, 32, 111, 102, 32, 114, 97, 110, 103, 101])])) (x := xL4_1 n) (v := .pointer (some ⟨n, 0, none⟩)) (by kernel_rfl) pf (by kernel_rfl) (by kernel_rfl)
noncomputable def lI (n : Nat) : List (Nat × List Value) × List Obj := ((6, (pV (n)).1) :: (7, (pU (n + 1)).1) :: [], (pV (n)).2 ++ ((pU (n + 1)).2 ++ ([])))
theorem mz (n : Nat) : Lay.layList Proofs.Tryz.prog n [] = some ([], []) := by simp only [Lay.layList]
theorem mA (n : Nat) : Lay.layList Proofs.Tryz.prog n [("strconv.ErrSyntax", Rows.laid_strconv_ErrSyntax), ("strconv.ErrRange", Rows.laid_strconv_ErrRange)] = some (lI n) := fZ (P := Proofs.Tryz.prog) (n := n) (g := 6) (gl := ⟨ "strconv.ErrSyntax", 195, none⟩) (x := ("strconv.ErrSyntax", Rows.laid_strconv_ErrSyntax)) (y := pV (n)) (by kernel_rfl) (by kernel_rfl) (wP (n)) (fZ (P := Proofs.Tryz.prog) (n := n + 1) (g := 7) (gl := ⟨ "strconv.ErrRange", 195, none⟩) (x := ("strconv.ErrRange", Rows.laid_strconv_ErrRange)) (y := pU (n + 1)) (by kernel_rfl) (by kernel_rfl) (wO (n + 1)) (mz _))
noncomputable def na (n : Nat) : Option (List (Nat × List Value) × List Obj) := (Lay.layList Proofs.Tryz.prog (n + (lI n).2.length) (Rows.scriptAsksMatchSpecUptoRow.laid.drop 7)).map fun z => ((lI n).1 ++ z.1, (lI n).2 ++ z.2)
theorem uD : Rows.scriptAsksMatchSpecUptoRow.laid.drop 5 = [("strconv.ErrSyntax", Rows.laid_strconv_ErrSyntax), ("strconv.ErrRange", Rows.laid_strconv_ErrRange)] ++ Rows.scriptAsksMatchSpecUptoRow.laid.drop 7 := by kernel_rfl
theorem m9 (n : Nat) : Lay.layList Proofs.Tryz.prog n (Rows.scriptAsksMatchSpecUptoRow.laid.drop 5) = na n := by
 rw [uD, cm, mA n, Option.bind_some]
 unfold na
 with_reducible rfl
noncomputable def yAllL4 : Option (List (Nat × List Value) × List Obj) := (Lay.layList Proofs.Tryz.prog 16 (Rows.scriptAsksMatchSpecUptoRow.laid.take 5)).bind fun y => (na (16 + y.2.length)).map fun z => (y.1 ++ z.1, y.2 ++ z.2)
theorem cH : Lay.layList Proofs.Tryz.prog 16 Rows.scriptAsksMatchSpecUptoRow.laid = yAllL4 := by
 refine (congrArg (Lay.layList Proofs.Tryz.prog 16) (List.take_append_drop 5 Rows.scriptAsksMatchSpecUptoRow.laid).symm).trans ((cm _ _ _ _).trans ?_)
 refine congrArg (Option.bind _) (funext fun y => ?_)
 exact congrArg (Option.map _) (m9 (16 + y.2.length))
end Go.T9
