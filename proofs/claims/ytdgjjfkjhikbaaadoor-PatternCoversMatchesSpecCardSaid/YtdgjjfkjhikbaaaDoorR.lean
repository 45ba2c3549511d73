/- A part of the proof. -/
import Derived.Test.YtdgjjfkjhikbaaaDoorE
import Derived.KernelRfl
set_option linter.unusedVariables false
set_option linter.unusedSimpArgs false
set_option maxRecDepth 1000000
namespace Go.T9
open Go Go.AM
noncomputable section
def exts : List (FuncId × ExtF) := [(111, xIndexByte)]
def bruijn : List Value := ([0, 1, 56, 2, 57, 49, 28, 3, 61, 58, 42, 50, 38, 29, 17, 4, 62, 47, 59, 36, 45, 43, 51, 22, 53, 39, 33, 30, 24, 18, 12, 5, 63, 55, 48, 27, 60, 41, 37, 16, 46, 35, 44, 21, 52, 32, 23, 11, 54, 26, 40, 15, 34, 20, 31, 10, 25, 14, 19, 9, 13, 8, 7, 6] : List Int).map fun x => .int .u8 x
def tabs (g : Nat) : Option (List Value) := bif Nat.beq g 0 then some bruijn else none
def env1 : Env := envOf Proofs.Tryd.prog nTypes nFuncs tiT fnT tabs exts false
def env : Env := envOf Proofs.Tryd.prog nTypes nFuncs tiT fnT tabs exts true
theorem h1 : (List.range nTypes).map tiT.get = (List.range nTypes).map Proofs.Tryd.prog.info? := by kernel_rfl
theorem h2 : (List.range nFuncs).map (fun f => fill (fnT.get f) Proofs.Tryd.prog.funcs[f]?) = (List.range nFuncs).map (fun f => Proofs.Tryd.prog.funcs[f]?) := by kernel_rfl
theorem h3 : (List.range nFuncs).all (fun f => fnOk1 (fnT.get f)) = true := by kernel_rfl
theorem h4 : Proofs.Tryd.prog.follows .mixedOrders = true := by kernel_rfl
theorem x2 : isExt Proofs.Tryd.prog 111 Extern.BytealgIndexByte.indexByte := ⟨Proofs.Tryd.f111, by kernel_rfl, by kernel_rfl, by kernel_rfl, by kernel_rfl, by kernel_rfl⟩
theorem h5 : ExtsOk Proofs.Tryd.prog exts := .cons (xIndexByte_ok x2) .nil
theorem env1_ok : env1.Ok := envOf_ok h1 h2 h3 h4 h5
theorem env_ok : env.Ok := envOf_ok h1 h2 h3 h4 h5
theorem env_gl : GlOk env := fun _ => rfl
theorem env_sym : env.sym = true := rfl
theorem h6 : (List.range nFuncs).all (fun f => fnCode env1 (fnT.get f)) = true := by kernel_rfl
theorem fns_ok : FnsOk env1 := envOf_fns h6
end
end Go.T9
