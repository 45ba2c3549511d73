/- A part of the proof. -/
import Derived.Test.YtplabpmicdbglaaGreatDoorX0
import Derived.KernelRfl
set_option maxRecDepth 1000000
namespace Go.T9
open Go Go.AM
noncomputable section
theorem digD15 : allD 45 450 30 = true := by kernel_rfl
theorem digD16 : allD 45 480 30 = true := by kernel_rfl
theorem digD17 : allD 45 510 30 = true := by kernel_rfl
theorem digD18 : allD 45 540 30 = true := by kernel_rfl
theorem digD19 : allD 45 570 30 = true := by kernel_rfl
end
end Go.T9
