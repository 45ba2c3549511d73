/- A part of the proof. -/
import Derived.Test.YtegefclhhjbfhaaGreatDoorE
import Derived.KernelRfl
set_option linter.unusedVariables false
set_option linter.unusedSimpArgs false
set_option maxRecDepth 1000000
namespace Go.T9
open Go Go.AM Go.Proofs.Tryz
noncomputable section
def exts:List (FuncId×ExtF):=[(132,ii)]
def oQ:Lh:=([0,1,56,2,57,49,28,3,61,58,42,50,38,29,17,4,62,47,59,36,45,43,51,22,53,39,33,30,24,18,12,5,63,55,48,27,60,41,37,16,46,35,44,21,52,32,23,11,54,26,40,15,34,20,31,10,25,14,19,9,13,8,7,6]:Le).map λx=>.int .u8 x
def yP:Lh:=([1,10,100,1000,10000,100000,1000000,10000000,100000000,1000000000,10000000000,100000000000,1000000000000,10000000000000,100000000000000,1000000000000000,10000000000000000,100000000000000000,1000000000000000000,10000000000000000000]:Le).map λx=>.int .u64 x
def tabs(g:Nat):Option Lh:=bif Nat.beq g 0 then some oQ else bif Nat.beq g 1 then some yP else none
def env1:Env:=ud Proofs.Tryz.prog rj la tiT fnT tabs exts false
def env:Env:=ud Proofs.Tryz.prog rj la tiT fnT tabs exts true
theorem h1:(List.range rj).map tiT.get=(List.range rj).map Proofs.Tryz.prog.info?:=by kernel_rfl
theorem h2:(List.range la).map (λf=>fill (fnT.get f) Proofs.Tryz.prog.funcs[f]?)=(List.range la).map (λf=>Proofs.Tryz.prog.funcs[f]?):=by kernel_rfl
theorem h3:(List.range la).all (λf=>FX (fnT.get f))=true:=by kernel_rfl
theorem h4:Proofs.Tryz.prog.follows .mixedOrders=true:=by kernel_rfl
theorem x2:E8 Proofs.Tryz.prog 132 Extern.BytealgIndexByte.indexByte:=⟨f132,by kernel_rfl,by kernel_rfl,by kernel_rfl,by kernel_rfl,by kernel_rfl⟩
theorem h5:ExtsOk Proofs.Tryz.prog exts:=.cons (lR x2) .nil
theorem qh:env1.Ok:=sr h1 h2 h3 h4 h5
theorem ai:env.Ok:=sr h1 h2 h3 h4 h5
theorem am:GlOk env:=λ_=>rfl
theorem aD:env.sym=true:=rfl
theorem h6:(List.range la).all (λf=>w9 env1 (fnT.get f))=true:=by kernel_rfl
theorem wZ:ut env1:=xl h6
end
end Go.T9
