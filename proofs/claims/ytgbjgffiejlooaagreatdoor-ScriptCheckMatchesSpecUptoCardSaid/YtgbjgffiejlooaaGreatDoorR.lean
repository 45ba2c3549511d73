/- A part of the proof. -/
import Derived.Test.YtgbjgffiejlooaaGreatDoorE
import Derived.KernelRfl
set_option linter.unusedVariables false
set_option linter.unusedSimpArgs false
set_option maxRecDepth 1000000
namespace Go.T9
open Go Go.AM Go.Proofs.Tryz
noncomputable section
def exts : List (FuncId × ExtF) := [(214, c9), (215, qi)]
def env0 : Env := jR Proofs.Tryz.prog gV eZ tiT fnT (fun _ => none) exts false
def env : Env := jR Proofs.Tryz.prog gV eZ tiT fnT (fun _ => none) exts true
theorem h1 : (List.range gV).map tiT.get = (List.range gV).map Proofs.Tryz.prog.info? := by kernel_rfl
theorem h2 : (List.range eZ).map (fun f => fill (fnT.get f) Proofs.Tryz.prog.funcs[f]?) = (List.range eZ).map (fun f => Proofs.Tryz.prog.funcs[f]?) := by kernel_rfl
theorem h3 : (List.range eZ).all (fun f => yQ (fnT.get f)) = true := by kernel_rfl
theorem h4 : Proofs.Tryz.prog.follows .mixedOrders = true := by kernel_rfl
theorem x2 : mY Proofs.Tryz.prog 214 Extern.BytealgIndexByte.indexByte := ⟨f214, by kernel_rfl, by kernel_rfl, by kernel_rfl, by kernel_rfl, by kernel_rfl⟩
theorem x3 : mY Proofs.Tryz.prog 215 Extern.AbiNoEscape.same := ⟨f215, by kernel_rfl, by kernel_rfl, by kernel_rfl, by kernel_rfl, by kernel_rfl⟩
theorem h5 : ExtsOk Proofs.Tryz.prog exts := .cons (dM x2) (.cons (kV x3) .nil)
theorem y0 : env0.Ok := fJ h1 h2 h3 h4 h5
theorem env_ok : env.Ok := fJ h1 h2 h3 h4 h5
theorem bw : GlOk env := fun _ => rfl
theorem env_none (w : World) : Glob env (sig0 w) := fun g cs h => by cases h
theorem cC : env.sym = true := rfl
theorem h6 : (List.range eZ).all (fun f => pq env0 (fnT.get f)) = true := by kernel_rfl
theorem fns_ok : kU env0 := pF h6
theorem nv : qj (eL env0 (evN env0 100000) 10 [] ⟨.leaf, 0⟩) = .bool true := by kernel_rfl
theorem jZ (w : World) : Calls Proofs.Tryz.prog 10 #[] w fun e w' => e = .returned (.bool true) ∧ RowKit.Below w.heap.size w w' := kI y0 rfl fns_ok nv w (fun g cs h => by cases h)
end
end Go.T9
