/- A part of the proof. -/
import Derived.Test.YthnclaleojkecaaGreatDoorE
import Derived.KernelRfl
set_option linter.unusedVariables false
set_option linter.unusedSimpArgs false
set_option maxRecDepth 1000000
namespace Go.T9
open Go Go.AM Go.Proofs.Tryz
noncomputable section
def exts:List (FuncId×ExtF):=[(113,gL)]
def oU:Lh:=([0,1,56,2,57,49,28,3,61,58,42,50,38,29,17,4,62,47,59,36,45,43,51,22,53,39,33,30,24,18,12,5,63,55,48,27,60,41,37,16,46,35,44,21,52,32,23,11,54,26,40,15,34,20,31,10,25,14,19,9,13,8,7,6]:Le).map λx=>.int .u8 x
def yl:Lh:=([1,10,100,1000,10000,100000,1000000,10000000,100000000,1000000000,10000000000,100000000000,1000000000000,10000000000000,100000000000000,1000000000000000,10000000000000000,100000000000000000,1000000000000000000,10000000000000000000]:Le).map λx=>.int .u64 x
def tabs(g:Nat):Option Lh:=bif Nat.beq g 0 then some oU else bif Nat.beq g 1 then some yl else none
def env1:Env:=tN Proofs.Tryz.prog q9 kK tiT fnT tabs exts false
def env:Env:=tN Proofs.Tryz.prog q9 kK tiT fnT tabs exts true
theorem h1:(List.range q9).map tiT.get=(List.range q9).map Proofs.Tryz.prog.info?:=by kernel_rfl
theorem h2:(List.range kK).map (λf=>fill (fnT.get f) Proofs.Tryz.prog.funcs[f]?)=(List.range kK).map (λf=>Proofs.Tryz.prog.funcs[f]?):=by kernel_rfl
theorem h3:(List.range kK).all (λf=>EQ (fnT.get f))=true:=by kernel_rfl
theorem h4:Proofs.Tryz.prog.follows .mixedOrders=true:=by kernel_rfl
theorem x2:D8 Proofs.Tryz.prog 113 Extern.BytealgIndexByte.indexByte:=⟨f113,by kernel_rfl,by kernel_rfl,by kernel_rfl,by kernel_rfl,by kernel_rfl⟩
theorem h5:ExtsOk Proofs.Tryz.prog exts:=.cons (lq x2) .nil
theorem qc:env1.Ok:=sg h1 h2 h3 h4 h5
theorem ak:env.Ok:=sg h1 h2 h3 h4 h5
theorem ap:GlOk env:=λ_=>rfl
theorem aF:env.sym=true:=rfl
theorem h6:(List.range kK).all (λf=>wB env1 (fnT.get f))=true:=by kernel_rfl
theorem wA:ub env1:=wN h6
end
end Go.T9
