/-
  NodeForms: cases, part 4.
-/
import Derived.Test.YtkcccjihafhmdaaGreatNodeFormsC0
import Derived.KernelRfl
set_option maxRecDepth 1000000
namespace Go.Proofs.YtkcccjihafhmdaaGreat.Ev
open Go.Ev
theorem cNodeForms13_10 : runNodeForms [] (.int .i64 1) (.int .i64 5) [(10, 12)] = true := by kernel_rfl
theorem cNodeForms13_13 : runNodeForms [] (.int .i64 1) (.int .i64 5) [(13, 15)] = true := by kernel_rfl
theorem cNodeForms14_0 : runNodeForms [] (.int .i64 2) (.int .i64 5) [(0, 5)] = true := by kernel_rfl
theorem cNodeForms14_6 : runNodeForms [] (.int .i64 2) (.int .i64 5) [(6, 9)] = true := by kernel_rfl
theorem cNodeForms14_10 : runNodeForms [] (.int .i64 2) (.int .i64 5) [(10, 12)] = true := by kernel_rfl
theorem cNodeForms14_13 : runNodeForms [] (.int .i64 2) (.int .i64 5) [(13, 15)] = true := by kernel_rfl
theorem cNodeForms15_0 : runNodeForms [] (.int .i64 3) (.int .i64 5) [(0, 5)] = true := by kernel_rfl
theorem cNodeForms15_6 : runNodeForms [] (.int .i64 3) (.int .i64 5) [(6, 9)] = true := by kernel_rfl
end Go.Proofs.YtkcccjihafhmdaaGreat.Ev
