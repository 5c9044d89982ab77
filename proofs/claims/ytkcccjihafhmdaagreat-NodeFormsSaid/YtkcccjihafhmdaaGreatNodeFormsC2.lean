/-
  NodeForms: cases, part 2.
-/
import Derived.Test.YtkcccjihafhmdaaGreatNodeFormsC0
import Derived.KernelRfl
set_option maxRecDepth 1000000
namespace Go.Proofs.YtkcccjihafhmdaaGreat.Ev
open Go.Ev
theorem cNodeForms6_13 : runNodeForms [] (.int .i64 0) (.int .i64 3) [(13, 15)] = true := by kernel_rfl
theorem cNodeForms7_0 : runNodeForms [] (.int .i64 1) (.int .i64 3) [(0, 5)] = true := by kernel_rfl
theorem cNodeForms7_6 : runNodeForms [] (.int .i64 1) (.int .i64 3) [(6, 9)] = true := by kernel_rfl
theorem cNodeForms7_10 : runNodeForms [] (.int .i64 1) (.int .i64 3) [(10, 12)] = true := by kernel_rfl
theorem cNodeForms7_13 : runNodeForms [] (.int .i64 1) (.int .i64 3) [(13, 15)] = true := by kernel_rfl
theorem cNodeForms8_0 : runNodeForms [] (.int .i64 2) (.int .i64 3) [(0, 5)] = true := by kernel_rfl
theorem cNodeForms8_6 : runNodeForms [] (.int .i64 2) (.int .i64 3) [(6, 9)] = true := by kernel_rfl
theorem cNodeForms8_10 : runNodeForms [] (.int .i64 2) (.int .i64 3) [(10, 12)] = true := by kernel_rfl
end Go.Proofs.YtkcccjihafhmdaaGreat.Ev
