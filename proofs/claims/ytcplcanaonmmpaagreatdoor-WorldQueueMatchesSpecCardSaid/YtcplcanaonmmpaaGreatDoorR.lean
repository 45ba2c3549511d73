/- A part of the proof. -/
import Derived.Test.YtcplcanaonmmpaaGreatDoorE
import Derived.KernelRfl
set_option linter.unusedVariables false
set_option linter.unusedSimpArgs false
set_option maxRecDepth 1000000
namespace Go.T9
open Go Go.AM
noncomputable section
def exts : List (FuncId × ExtF) := [(373, xIndexByte), (374, xSame), (181, xClone)]
def env0 : Env := envOf Proofs.Tryz.prog nTypes nFuncs tiT fnT (fun _ => none) exts false
def env : Env := envOf Proofs.Tryz.prog nTypes nFuncs tiT fnT (fun _ => none) exts true
theorem h1 : (List.range nTypes).map tiT.get = (List.range nTypes).map Proofs.Tryz.prog.info? := by kernel_rfl
theorem h2 : (List.range nFuncs).map (fun f => fill (fnT.get f) Proofs.Tryz.prog.funcs[f]?) = (List.range nFuncs).map (fun f => Proofs.Tryz.prog.funcs[f]?) := by kernel_rfl
theorem h3 : (List.range nFuncs).all (fun f => fnOk1 (fnT.get f)) = true := by kernel_rfl
theorem h4 : Proofs.Tryz.prog.follows .mixedOrders = true := by kernel_rfl
theorem x2 : isExt Proofs.Tryz.prog 373 Extern.BytealgIndexByte.indexByte := ⟨Proofs.Tryz.f373, by kernel_rfl, by kernel_rfl, by kernel_rfl, by kernel_rfl, by kernel_rfl⟩
theorem x3 : isExt Proofs.Tryz.prog 374 Extern.AbiNoEscape.same := ⟨Proofs.Tryz.f374, by kernel_rfl, by kernel_rfl, by kernel_rfl, by kernel_rfl, by kernel_rfl⟩
theorem x4 : isExt Proofs.Tryz.prog 181 Extern.MapsClone.clone := ⟨Proofs.Tryz.f181, by kernel_rfl, by kernel_rfl, by kernel_rfl, by kernel_rfl, by kernel_rfl⟩
theorem h5 : ExtsOk Proofs.Tryz.prog exts := .cons (xIndexByte_ok x2) (.cons (xSame_ok x3) (.cons (xClone_ok x4) .nil))
theorem env0_ok : env0.Ok := envOf_ok h1 h2 h3 h4 h5
theorem env_ok : env.Ok := envOf_ok h1 h2 h3 h4 h5
theorem env_gl : GlOk env := fun _ => rfl
theorem env_none (w : World) : Glob env (sig0 w) := fun g cs h => by cases h
theorem env_sym : env.sym = true := rfl
theorem h6 : (List.range nFuncs).all (fun f => fnCode env0 (fnT.get f)) = true := by kernel_rfl
theorem fns_ok : FnsOk env0 := envOf_fns h6
theorem ran_ev : valOf (callF env0 (evN env0 100000) 12 [] ⟨.leaf, 0⟩) = .bool true := by kernel_rfl
theorem ran_true (w : World) : Calls Proofs.Tryz.prog 12 #[] w fun e w' => e = .returned (.bool true) ∧ RowKit.Below w.heap.size w w' := closed_true env0_ok rfl fns_ok ran_ev w (fun g cs h => by cases h)
end
end Go.T9
