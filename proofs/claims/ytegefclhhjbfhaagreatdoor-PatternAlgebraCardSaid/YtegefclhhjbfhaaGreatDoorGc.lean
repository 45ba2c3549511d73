/- A part of the proof. -/
import Derived.Test.YtegefclhhjbfhaaGreatDoorGa
import Derived.Test.YtegefclhhjbfhaaGreatDoorL
set_option linter.unusedVariables false
set_option linter.unusedSimpArgs false
set_option maxRecDepth 1000000
namespace Go.T9
open Go Go.AM Go.FA Go.Proofs.Tryz
abbrev _root_.Go.JI:=@Array.all_toList
theorem zV:Nat.ble 268 (1+(leads.map λl=>l.length+1).sum)=true:=by kernel_rfl
theorem laidOut:laidOutB Proofs.Tryz.prog=true:=by unfold laidOutB rowFine isVar Program.cellsOf Program.underlying;rw[hT.1,hT.2,<-JI,<-JI];simp only[<-JI];kernel_rfl
theorem ou:mapsRowed Proofs.Tryz.prog=true:=by unfold mapsRowed Program.underlying;rw[hT.1,hT.2];kernel_rfl
theorem heard:Proofs.Tryz.prog.stopsHeard=true:=by unfold Program.stopsHeard;rw[<-JI];kernel_rfl
theorem lays:Proofs.Tryz.prog.laysLater=false:=by unfold Program.laysLater;rw[<-Jm];kernel_rfl
theorem pG:Proofs.Tryz.prog.mayEnter=true:=by unfold Program.mayEnter;rw[lays];kernel_rfl
theorem namedV:Proofs.Tryz.prog.funcNamed "gosem.cut.vars" =some 154:=iY (by kernel_rfl)
theorem noGo:(Proofs.Tryz.prog.funcs.toList.all λfn=> !fn.goes)=true:=by kernel_rfl
theorem own1:ownKnob Proofs.Tryz.prog.godebug=none:=by kernel_rfl
theorem looks1:Proofs.Tryz.prog.looks []=false:=by unfold Program.looks;rw[hFz.1];simp only[hFz.2];kernel_rfl
end Go.T9
