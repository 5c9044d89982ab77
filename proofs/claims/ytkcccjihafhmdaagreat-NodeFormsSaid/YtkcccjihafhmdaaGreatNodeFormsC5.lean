/-
  NodeForms: cases, part 5.
-/
import Derived.Test.YtkcccjihafhmdaaGreatNodeFormsC0
import Derived.KernelRfl
set_option maxRecDepth 1000000
namespace Go.Proofs.YtkcccjihafhmdaaGreat.Ev
open Go.Ev
theorem cNodeForms15_10 : runNodeForms [] (.int .i64 3) (.int .i64 5) [(10, 12)] = true := by kernel_rfl
theorem cNodeForms15_13 : runNodeForms [] (.int .i64 3) (.int .i64 5) [(13, 15)] = true := by kernel_rfl
theorem cNodeForms16_0 : runNodeForms [] (.int .i64 4) (.int .i64 5) [(0, 5)] = true := by kernel_rfl
theorem cNodeForms16_6 : runNodeForms [] (.int .i64 4) (.int .i64 5) [(6, 9)] = true := by kernel_rfl
theorem cNodeForms16_10 : runNodeForms [] (.int .i64 4) (.int .i64 5) [(10, 12)] = true := by kernel_rfl
theorem cNodeForms16_13 : runNodeForms [] (.int .i64 4) (.int .i64 5) [(13, 15)] = true := by kernel_rfl
theorem cNodeForms17_0 : runNodeForms [⟨.geq, .i64, 0, 0, .bool true⟩, ⟨.lss, .i64, 0, 0, .bool false⟩, ⟨.lss, .i64, 0, 5, .bool false⟩, ⟨.geq, .i64, 0, 5, .bool true⟩] (.sym .i64 0) (.int .i64 5) [(0, 15)] = true := by kernel_rfl
theorem cNodeForms18_0 : runNodeForms [] (.sym .i64 0) (.int .i64 6) [(0, 15)] = true := by kernel_rfl
theorem cNodeForms19_0 : runNodeForms [⟨.geq, .i64, 0, 0, .bool false⟩, ⟨.lss, .i64, 0, 0, .bool true⟩] (.sym .i64 0) (.int .i64 7) [(0, 15)] = true := by kernel_rfl
theorem cNodeForms20_0 : runNodeForms [] (.int .i64 0) (.int .i64 7) [(0, 5)] = true := by kernel_rfl
end Go.Proofs.YtkcccjihafhmdaaGreat.Ev
