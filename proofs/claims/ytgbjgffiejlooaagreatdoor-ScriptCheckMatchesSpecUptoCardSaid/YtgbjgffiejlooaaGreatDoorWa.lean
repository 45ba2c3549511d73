/- A part of the proof. -/
import Derived.Test.YtgbjgffiejlooaaGreatDoorGa
import Derived.Test.YtgbjgffiejlooaaGreatDoorL
import Derived.Test.YtgbjgffiejlooaaGreatDoorRows
set_option linter.unusedVariables false
set_option linter.unusedSimpArgs false
set_option maxRecDepth 1000000
namespace Go.T9
open Go Go.AM Go.FA Go.Proofs Go.Proofs.YtgbjgffiejlooaaGreatDoor Go.Proofs.Tryz
theorem jH (os : Os) : (World.holding Proofs.Tryz.prog os ⟨#[], #[], []⟩).heap.size = 16 := by kernel_rfl
theorem ry : ((List.range 361).all fun u => !rA (rW Proofs.Tryz.prog nT tiF) ("*" ++ "errors.errorString") "errors.errorString" u) = true := by kernel_rfl
theorem wj : (Proofs.Tryz.prog.typeName? 3 361 == some ("*" ++ "errors.errorString")) = true := by kernel_rfl
theorem vt : "*" ++ "errors.errorString" = "*errors.errorString" := by decide
theorem pu : na Proofs.Tryz.prog "*errors.errorString" = some 361 := (congrArg (na Proofs.Tryz.prog) vt).symm.trans (yS hT.2 hT.1 361 rfl ry wj)
noncomputable def xL3_0 (n : Nat) : List Value × List Obj := ([.pointer (some ⟨n, 0, none⟩)], [.cells #[.string ⟨#[105, 110, 118, 97, 108, 105, 100, 32, 115, 121, 110, 116, 97, 120]⟩] 363])
noncomputable def qh (n : Nat) : List Value × List Obj := ([.iface 361 (.pointer (some ⟨n, 0, none⟩))], (xL3_0 n).2)
theorem wD (n : Nat) : DataW.lay Proofs.Tryz.prog 195 n (.iface "*errors.errorString" (.ptr (.agg [.lit (.string [105, 110, 118, 97, 108, 105, 100, 32, 115, 121, 110, 116, 97, 120])]))) = some (qh n) :=
 jC (P := Proofs.Tryz.prog) (t := 195) (u := 361) (n := n) (d := .ptr (.agg [.lit (.string [105, 110, 118, 97, 108, 105, 100, 32, 115, 121, 110, 116, 97, 120])])) (x := xL3_0 n) (v := .pointer (some ⟨n, 0, none⟩)) (by kernel_rfl) pu (by kernel_rfl) (by kernel_rfl)
noncomputable def xL3_1 (n : Nat) : List Value × List Obj := ([.pointer (some ⟨n, 0, none⟩)], [.cells #[.string ⟨#[118, 97, 108, 117, 101, 32, 111, 117, 116, 32, 111, 102, 32, 114, 97, 110, 103, 101]⟩] 363])
noncomputable def qg (n : Nat) : List Value × List Obj := ([.iface 361 (.pointer (some ⟨n, 0, none⟩))], (xL3_1 n).2)
theorem wC (n : Nat) : DataW.lay Proofs.Tryz.prog 195 n (.iface "*errors.errorString" (.ptr (.agg [.lit (.string [118, 97, 108, 117, 101, 32, 111, 117, 116, 32, 111, 102, 32, 114, 97, 110, 103, 101])]))) = some (qg n) :=
 jC (P := Proofs.Tryz.prog) (t := 195) (u := 361) (n := n) (d := .ptr (.agg [.lit (.string [118, 97, 108, 117, 101, 32, 111, 117, 116, 32, 111, 102, 32, 114, 97, 110, 103, 101])])) (x := xL3_1 n) (v := .pointer (some ⟨n, 0, none⟩)) (by kernel_rfl) pu (by kernel_rfl) (by kernel_rfl)
noncomputable def lY (n : Nat) : List (Nat × List Value) × List Obj := ((6, (qh (n)).1) :: (7, (qg (n + 1)).1) :: [], (qh (n)).2 ++ ((qg (n + 1)).2 ++ ([])))
theorem mU (n : Nat) : Lay.layList Proofs.Tryz.prog n [] = some ([], []) := by simp only [Lay.layList]
theorem mV (n : Nat) : Lay.layList Proofs.Tryz.prog n [("strconv.ErrSyntax", Rows.laid_strconv_ErrSyntax), ("strconv.ErrRange", Rows.laid_strconv_ErrRange)] = some (lY n) := gj (P := Proofs.Tryz.prog) (n := n) (g := 6) (gl := ⟨ "strconv.ErrSyntax", 195, none⟩) (x := ("strconv.ErrSyntax", Rows.laid_strconv_ErrSyntax)) (y := qh (n)) (by kernel_rfl) (by kernel_rfl) (wD (n)) (gj (P := Proofs.Tryz.prog) (n := n + 1) (g := 7) (gl := ⟨ "strconv.ErrRange", 195, none⟩) (x := ("strconv.ErrRange", Rows.laid_strconv_ErrRange)) (y := qg (n + 1)) (by kernel_rfl) (by kernel_rfl) (wC (n + 1)) (mU _))
noncomputable def nu (n : Nat) : Option (List (Nat × List Value) × List Obj) := (Lay.layList Proofs.Tryz.prog (n + (lY n).2.length) (Rows.scriptCheckMatchesSpecUptoRow.laid.drop 7)).map fun z => ((lY n).1 ++ z.1, (lY n).2 ++ z.2)
theorem uK : Rows.scriptCheckMatchesSpecUptoRow.laid.drop 5 = [("strconv.ErrSyntax", Rows.laid_strconv_ErrSyntax), ("strconv.ErrRange", Rows.laid_strconv_ErrRange)] ++ Rows.scriptCheckMatchesSpecUptoRow.laid.drop 7 := by kernel_rfl
theorem nt (n : Nat) : Lay.layList Proofs.Tryz.prog n (Rows.scriptCheckMatchesSpecUptoRow.laid.drop 5) = nu n := by
 rw [uK, cm, mV n, Option.bind_some]
 unfold nu
 with_reducible rfl
noncomputable def yAllL3 : Option (List (Nat × List Value) × List Obj) := (Lay.layList Proofs.Tryz.prog 16 (Rows.scriptCheckMatchesSpecUptoRow.laid.take 5)).bind fun y => (nu (16 + y.2.length)).map fun z => (y.1 ++ z.1, y.2 ++ z.2)
theorem cM : Lay.layList Proofs.Tryz.prog 16 Rows.scriptCheckMatchesSpecUptoRow.laid = yAllL3 := by
 refine (congrArg (Lay.layList Proofs.Tryz.prog 16) (List.take_append_drop 5 Rows.scriptCheckMatchesSpecUptoRow.laid).symm).trans ((cm _ _ _ _).trans ?_)
 refine congrArg (Option.bind _) (funext fun y => ?_)
 exact congrArg (Option.map _) (nt (16 + y.2.length))
end Go.T9
