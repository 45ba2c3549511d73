/- A part of the proof. -/
import Derived.Test.YtplabpmicdbglaaGreatDoorX0
import Derived.KernelRfl
set_option maxRecDepth 1000000
namespace Go.T9
open Go Go.AM
noncomputable section
theorem digD0 : allD 45 0 30 = true := by kernel_rfl
theorem digD1 : allD 45 30 30 = true := by kernel_rfl
theorem digD2 : allD 45 60 30 = true := by kernel_rfl
theorem digD3 : allD 45 90 30 = true := by kernel_rfl
theorem digD4 : allD 45 120 30 = true := by kernel_rfl
theorem digI0 : allD 42 0 50 = true := by kernel_rfl
theorem digI1 : allD 42 50 50 = true := by kernel_rfl
theorem digI2 : allD 42 100 50 = true := by kernel_rfl
theorem digI3 : allD 42 150 50 = true := by kernel_rfl
theorem digI4 : allD 42 200 50 = true := by kernel_rfl
theorem digI5 : allD 42 250 50 = true := by kernel_rfl
theorem digI6 : allD 42 300 50 = true := by kernel_rfl
theorem digI7 : allD 42 350 50 = true := by kernel_rfl
theorem digI8 : allD 42 400 50 = true := by kernel_rfl
theorem digI9 : allD 42 450 50 = true := by kernel_rfl
theorem digI10 : allD 42 500 50 = true := by kernel_rfl
theorem digI11 : allD 42 550 50 = true := by kernel_rfl
end
end Go.T9
