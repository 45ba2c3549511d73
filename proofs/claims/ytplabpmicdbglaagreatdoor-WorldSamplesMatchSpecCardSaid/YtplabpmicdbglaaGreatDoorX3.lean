/- A part of the proof. -/
import Derived.Test.YtplabpmicdbglaaGreatDoorX0
import Derived.KernelRfl
set_option maxRecDepth 1000000
namespace Go.T9
open Go Go.AM
noncomputable section
theorem digD10 : allD 45 300 30 = true := by kernel_rfl
theorem digD11 : allD 45 330 30 = true := by kernel_rfl
theorem digD12 : allD 45 360 30 = true := by kernel_rfl
theorem digD13 : allD 45 390 30 = true := by kernel_rfl
theorem digD14 : allD 45 420 30 = true := by kernel_rfl
end
end Go.T9
