/- A part of the proof. -/
import Derived.Test.YtdgjjfkjhikbaaaDoorR
import Derived.Test.YtdgjjfkjhikbaaaDoorF
import Derived.KernelRfl
set_option linter.unusedVariables false
set_option linter.unusedSimpArgs false
set_option maxRecDepth 1000000
namespace Go.T9
open Go Go.AM
noncomputable section
theorem HFi (k : IntKind) (x : Int) : HF (.int k x) := .scal rfl
theorem HFb (b : Bool) : HF (.bool b) := .scal rfl
def dat (sz : Nat) (els : List Value) : Value := .func (.yield sz) ⟨els⟩ ⟨[]⟩
abbrev Vi (x : Int) : Value := .int .i64 x
abbrev Vs (s : ByteArray) : Value := .string s
abbrev Vd (n : Nat) (l : List Value) : Value := .func (.yield n) ⟨l⟩ ⟨[]⟩
abbrev Vb (b : Bool) : Value := .bool b
abbrev Va (l : List Value) : Value := .agg ⟨l⟩
abbrev Vt (l : List Value) : Value := .tuple ⟨l⟩
abbrev Ac (l : List Value) (e : TypeId) : AObj := .cells l e
abbrev Wi (x : Int) : Int := IntKind.wrap .i64 x
abbrev Lf {α : Type} : T α := .leaf
abbrev Nd {α : Type} (a : T α) (b : Option α) (c : T α) : T α := .node a b c
abbrev Ns {α : Type} (a : T α) (x : α) (b : T α) : T α := .node a (some x) b
abbrev No {α : Type} (a b : T α) : T α := .node a none b
abbrev mvl (l : List (Value × Value × Nat)) : List Value := l.map fun x => x.2.1
abbrev Sg {α : Type} (x : α) : T α := .node .leaf (some x) .leaf
def noEl : El := .of fun _ _ _ _ => none
end
end Go.T9
