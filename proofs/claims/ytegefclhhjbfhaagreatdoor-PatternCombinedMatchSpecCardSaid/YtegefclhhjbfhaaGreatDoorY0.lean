/- A part of the proof. -/
import Derived.Test.YtegefclhhjbfhaaGreatDoorR
import Derived.Test.YtegefclhhjbfhaaGreatDoorF
set_option linter.unusedVariables false
set_option linter.unusedSimpArgs false
set_option maxRecDepth 1000000
namespace Go.T9
open Go Go.AM
noncomputable section
theorem i64s(i:Nat)(h:i<9223372036854775807):IntKind.i64.wrap ((i:Int)+1)=((i+1:Nat):Int):=by rw[aF (by omega) (by omega)];rfl
theorem HFi(k:IntKind)(x:Int):HF (.int k x):=.scal rfl
theorem HFb(b:Bool):HF (.bool b):=.scal rfl
def dat(sz:Nat)(els:Lh):Value:=.func (.yield sz) ⟨els⟩ ⟨[]⟩
abbrev Vi(x:Int):Value:=.int .i64 x
abbrev Vs(s:ByteArray):Value:=.string s
abbrev Vd(n:Nat)(l:Lh):Value:=.func (.yield n) ⟨l⟩ ⟨[]⟩
abbrev Vb(b:Bool):Value:=.bool b
abbrev Va(l:Lh):Value:=.agg ⟨l⟩
abbrev Vt(l:Lh):Value:=.tuple ⟨l⟩
abbrev Ac(l:Lh)(e:TypeId):AObj:=.cells l e
abbrev Wi(x:Int):Int:=IntKind.wrap .i64 x
abbrev Lf{α :Type}:T α :=.leaf
abbrev Nd{α :Type}(a:T α)(b:Option α)(c:T α):T α :=.node a b c
abbrev Ns{α :Type}(a:T α)(x: α)(b:T α):T α :=.node a (some x) b
abbrev No{α :Type}(a b:T α):T α :=.node a none b
abbrev mvl(l:Lc):Lh:=l.map λx=>x.2.1
abbrev Sg{α :Type}(x: α):T α :=.node .leaf (some x) .leaf
def noEl:El:=.of λ_ _ _ _=>none
end
end Go.T9
