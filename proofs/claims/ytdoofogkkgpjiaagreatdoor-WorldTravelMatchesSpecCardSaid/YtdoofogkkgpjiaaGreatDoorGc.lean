/- A part of the proof. -/
import Derived.Test.YtdoofogkkgpjiaaGreatDoorGa
import Derived.Test.YtdoofogkkgpjiaaGreatDoorGb
set_option maxRecDepth 1000000
namespace Go.T8
open Go Go.AM Go.FA
theorem clo3_ev : cloF leadF 1500 [3] .leaf [] = some clo3 := by kernel_rfl
theorem clo_fuel : Nat.ble 1500 (1 + (leads.map fun l => l.length + 1).sum) = true := by kernel_rfl
theorem closure3 : Proofs.Tryz.prog.closure 3 = clo3 := closure_of 1500 nF leads_eq leads_ok (out_of leadF_out) clo_fuel clo3_ev
theorem laidOut : laidOutB Proofs.Tryz.prog = true := by
  unfold laidOutB rowFine isVar Program.cellsOf Program.underlying
  rw [hT.1, hT.2, ← Array.all_toList, ← Array.all_toList]
  simp only [← Array.all_toList]
  kernel_rfl
theorem mapsRowed_ok : mapsRowed Proofs.Tryz.prog = true := by
  unfold mapsRowed Program.underlying
  rw [hT.1, hT.2]
  kernel_rfl
theorem heard : Proofs.Tryz.prog.stopsHeard = true := by
  unfold Program.stopsHeard
  rw [← Array.all_toList]
  kernel_rfl
theorem lays : Proofs.Tryz.prog.laysLater = false := by
  unfold Program.laysLater
  rw [← Array.any_toList]
  kernel_rfl
theorem named3 : Proofs.Tryz.prog.funcNamed "dynamometer/dynamometerlaw8.WorldTravelMatchesSpec" = some 3 := funcNamed_of (by kernel_rfl)
theorem namedV : Proofs.Tryz.prog.funcNamed "gosem.cut.vars" = some 620 := funcNamed_of (by kernel_rfl)
end Go.T8
