/-
  NodeForms: cases, part 3.
-/
import Derived.Test.YtkcccjihafhmdaaGreatNodeFormsC0
import Derived.KernelRfl
set_option maxRecDepth 1000000
namespace Go.Proofs.YtkcccjihafhmdaaGreat.Ev
open Go.Ev
theorem cNodeForms8_13 : runNodeForms [] (.int .i64 2) (.int .i64 3) [(13, 15)] = true := by kernel_rfl
theorem cNodeForms9_0 : runNodeForms [⟨.geq, .i64, 0, 0, .bool true⟩, ⟨.lss, .i64, 0, 0, .bool false⟩, ⟨.lss, .i64, 0, 3, .bool false⟩, ⟨.geq, .i64, 0, 3, .bool true⟩] (.sym .i64 0) (.int .i64 3) [(0, 15)] = true := by kernel_rfl
theorem cNodeForms10_0 : runNodeForms [] (.sym .i64 0) (.int .i64 4) [(0, 15)] = true := by kernel_rfl
theorem cNodeForms11_0 : runNodeForms [⟨.geq, .i64, 0, 0, .bool false⟩, ⟨.lss, .i64, 0, 0, .bool true⟩] (.sym .i64 0) (.int .i64 5) [(0, 15)] = true := by kernel_rfl
theorem cNodeForms12_0 : runNodeForms [] (.int .i64 0) (.int .i64 5) [(0, 5)] = true := by kernel_rfl
theorem cNodeForms12_6 : runNodeForms [] (.int .i64 0) (.int .i64 5) [(6, 9)] = true := by kernel_rfl
theorem cNodeForms12_10 : runNodeForms [] (.int .i64 0) (.int .i64 5) [(10, 12)] = true := by kernel_rfl
theorem cNodeForms12_13 : runNodeForms [] (.int .i64 0) (.int .i64 5) [(13, 15)] = true := by kernel_rfl
theorem cNodeForms13_0 : runNodeForms [] (.int .i64 1) (.int .i64 5) [(0, 5)] = true := by kernel_rfl
theorem cNodeForms13_6 : runNodeForms [] (.int .i64 1) (.int .i64 5) [(6, 9)] = true := by kernel_rfl
end Go.Proofs.YtkcccjihafhmdaaGreat.Ev
