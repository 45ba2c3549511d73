/- A part of the proof. -/
import Derived.Test.YtplabpmicdbglaaGreatDoorX0
import Derived.KernelRfl
set_option maxRecDepth 1000000
namespace Go.T9
open Go Go.AM
noncomputable section
theorem digD5 : allD 45 150 30 = true := by kernel_rfl
theorem digD6 : allD 45 180 30 = true := by kernel_rfl
theorem digD7 : allD 45 210 30 = true := by kernel_rfl
theorem digD8 : allD 45 240 30 = true := by kernel_rfl
theorem digD9 : allD 45 270 30 = true := by kernel_rfl
end
end Go.T9
