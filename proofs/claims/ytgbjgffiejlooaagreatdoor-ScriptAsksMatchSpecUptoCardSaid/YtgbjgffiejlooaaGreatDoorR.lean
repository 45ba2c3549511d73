/- A part of the proof. -/
import Derived.Test.YtgbjgffiejlooaaGreatDoorE
import Derived.KernelRfl
set_option linter.unusedVariables false
set_option linter.unusedSimpArgs false
set_option maxRecDepth 1000000
namespace Go.T9
open Go Go.AM Go.Proofs.Tryz
noncomputable section
def exts : List (FuncId × ExtF) := [(214, cY), (215, pW)]
def env0 : Env := jx Proofs.Tryz.prog gJ eT tiT fnT (fun _ => none) exts false
def env : Env := jx Proofs.Tryz.prog gJ eT tiT fnT (fun _ => none) exts true
theorem h1 : (List.range gJ).map tiT.get = (List.range gJ).map Proofs.Tryz.prog.info? := by kernel_rfl
theorem h2 : (List.range eT).map (fun f => fill (fnT.get f) Proofs.Tryz.prog.funcs[f]?) = (List.range eT).map (fun f => Proofs.Tryz.prog.funcs[f]?) := by kernel_rfl
theorem h3 : (List.range eT).all (fun f => zj (fnT.get f)) = true := by kernel_rfl
theorem h4 : Proofs.Tryz.prog.follows .mixedOrders = true := by kernel_rfl
theorem x2 : mE Proofs.Tryz.prog 214 Extern.BytealgIndexByte.indexByte := ⟨f214, by kernel_rfl, by kernel_rfl, by kernel_rfl, by kernel_rfl, by kernel_rfl⟩
theorem x3 : mE Proofs.Tryz.prog 215 Extern.AbiNoEscape.same := ⟨f215, by kernel_rfl, by kernel_rfl, by kernel_rfl, by kernel_rfl, by kernel_rfl⟩
theorem h5 : ExtsOk Proofs.Tryz.prog exts := .cons (dK x2) (.cons (kC x3) .nil)
theorem zu : env0.Ok := fw h1 h2 h3 h4 h5
theorem env_ok : env.Ok := fw h1 h2 h3 h4 h5
theorem cU : GlOk env := fun _ => rfl
theorem env_none (w : World) : Glob env (sig0 w) := fun g cs h => by cases h
theorem gn : env.sym = true := rfl
theorem h6 : (List.range eT).all (fun f => pd env0 (fnT.get f)) = true := by kernel_rfl
theorem fns_ok : kB env0 := pk h6
theorem nb : pX (eG env0 (evN env0 100000) 10 [] ⟨.leaf, 0⟩) = .bool true := by kernel_rfl
theorem jF (w : World) : Calls Proofs.Tryz.prog 10 #[] w fun e w' => e = .returned (.bool true) ∧ RowKit.Below w.heap.size w w' := kl zu rfl fns_ok nb w (fun g cs h => by cases h)
end
end Go.T9
