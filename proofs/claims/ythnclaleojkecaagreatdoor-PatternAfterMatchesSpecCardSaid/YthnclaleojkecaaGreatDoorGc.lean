/- A part of the proof. -/
import Derived.Test.YthnclaleojkecaaGreatDoorGa
import Derived.Test.YthnclaleojkecaaGreatDoorL
set_option linter.unusedVariables false
set_option linter.unusedSimpArgs false
set_option maxRecDepth 1000000
namespace Go.T9
open Go Go.AM Go.FA Go.Proofs.Tryz
abbrev _root_.Go.JE:=@Array.all_toList
theorem z4:Nat.ble 228 (1+(leads.map λl=>l.length+1).sum)=true:=by kernel_rfl
theorem laidOut:laidOutB Proofs.Tryz.prog=true:=by unfold laidOutB rowFine isVar Program.cellsOf Program.underlying;rw[hT.1,hT.2,<-JE,<-JE];simp only[<-JE];kernel_rfl
theorem om:mapsRowed Proofs.Tryz.prog=true:=by unfold mapsRowed Program.underlying;rw[hT.1,hT.2];kernel_rfl
theorem heard:Proofs.Tryz.prog.stopsHeard=true:=by unfold Program.stopsHeard;rw[<-JE];kernel_rfl
theorem lays:Proofs.Tryz.prog.laysLater=false:=by unfold Program.laysLater;rw[<-Jh];kernel_rfl
theorem pG:Proofs.Tryz.prog.mayEnter=true:=by unfold Program.mayEnter;rw[lays];kernel_rfl
theorem namedV:Proofs.Tryz.prog.funcNamed "gosem.cut.vars" =some 136:=iJ (by kernel_rfl)
theorem noGo:(Proofs.Tryz.prog.funcs.toList.all λfn=> !fn.goes)=true:=by kernel_rfl
theorem own1:ownKnob Proofs.Tryz.prog.godebug=none:=by kernel_rfl
theorem looks1:Proofs.Tryz.prog.looks []=false:=by unfold Program.looks;rw[hFz.1];simp only[hFz.2];kernel_rfl
end Go.T9
