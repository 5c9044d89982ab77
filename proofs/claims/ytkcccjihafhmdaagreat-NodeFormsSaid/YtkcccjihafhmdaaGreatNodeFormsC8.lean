/-
  NodeForms: cases, part 8.
-/
import Derived.Test.YtkcccjihafhmdaaGreatNodeFormsC0
import Derived.KernelRfl
set_option maxRecDepth 1000000
namespace Go.Proofs.YtkcccjihafhmdaaGreat.Ev
open Go.Ev
theorem cNodeForms24_6 : runNodeForms [] (.int .i64 4) (.int .i64 7) [(6, 9)] = true := by kernel_rfl
theorem cNodeForms24_10 : runNodeForms [] (.int .i64 4) (.int .i64 7) [(10, 12)] = true := by kernel_rfl
theorem cNodeForms24_13 : runNodeForms [] (.int .i64 4) (.int .i64 7) [(13, 15)] = true := by kernel_rfl
theorem cNodeForms25_0 : runNodeForms [] (.int .i64 5) (.int .i64 7) [(0, 5)] = true := by kernel_rfl
theorem cNodeForms25_6 : runNodeForms [] (.int .i64 5) (.int .i64 7) [(6, 9)] = true := by kernel_rfl
theorem cNodeForms25_10 : runNodeForms [] (.int .i64 5) (.int .i64 7) [(10, 12)] = true := by kernel_rfl
theorem cNodeForms25_13 : runNodeForms [] (.int .i64 5) (.int .i64 7) [(13, 15)] = true := by kernel_rfl
theorem cNodeForms26_0 : runNodeForms [] (.int .i64 6) (.int .i64 7) [(0, 5)] = true := by kernel_rfl
end Go.Proofs.YtkcccjihafhmdaaGreat.Ev
