/-
  NodeForms: cases, part 7.
-/
import Derived.Test.YtkcccjihafhmdaaGreatNodeFormsC0
import Derived.KernelRfl
set_option maxRecDepth 1000000
namespace Go.Proofs.YtkcccjihafhmdaaGreat.Ev
open Go.Ev
theorem cNodeForms22_6 : runNodeForms [] (.int .i64 2) (.int .i64 7) [(6, 9)] = true := by kernel_rfl
theorem cNodeForms22_10 : runNodeForms [] (.int .i64 2) (.int .i64 7) [(10, 12)] = true := by kernel_rfl
theorem cNodeForms22_13 : runNodeForms [] (.int .i64 2) (.int .i64 7) [(13, 15)] = true := by kernel_rfl
theorem cNodeForms23_0 : runNodeForms [] (.int .i64 3) (.int .i64 7) [(0, 5)] = true := by kernel_rfl
theorem cNodeForms23_6 : runNodeForms [] (.int .i64 3) (.int .i64 7) [(6, 9)] = true := by kernel_rfl
theorem cNodeForms23_10 : runNodeForms [] (.int .i64 3) (.int .i64 7) [(10, 12)] = true := by kernel_rfl
theorem cNodeForms23_13 : runNodeForms [] (.int .i64 3) (.int .i64 7) [(13, 15)] = true := by kernel_rfl
theorem cNodeForms24_0 : runNodeForms [] (.int .i64 4) (.int .i64 7) [(0, 5)] = true := by kernel_rfl
end Go.Proofs.YtkcccjihafhmdaaGreat.Ev
