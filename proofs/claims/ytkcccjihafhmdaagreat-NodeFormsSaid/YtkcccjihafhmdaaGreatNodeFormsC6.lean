/-
  NodeForms: cases, part 6.
-/
import Derived.Test.YtkcccjihafhmdaaGreatNodeFormsC0
import Derived.KernelRfl
set_option maxRecDepth 1000000
namespace Go.Proofs.YtkcccjihafhmdaaGreat.Ev
open Go.Ev
theorem cNodeForms20_6 : runNodeForms [] (.int .i64 0) (.int .i64 7) [(6, 9)] = true := by kernel_rfl
theorem cNodeForms20_10 : runNodeForms [] (.int .i64 0) (.int .i64 7) [(10, 12)] = true := by kernel_rfl
theorem cNodeForms20_13 : runNodeForms [] (.int .i64 0) (.int .i64 7) [(13, 15)] = true := by kernel_rfl
theorem cNodeForms21_0 : runNodeForms [] (.int .i64 1) (.int .i64 7) [(0, 5)] = true := by kernel_rfl
theorem cNodeForms21_6 : runNodeForms [] (.int .i64 1) (.int .i64 7) [(6, 9)] = true := by kernel_rfl
theorem cNodeForms21_10 : runNodeForms [] (.int .i64 1) (.int .i64 7) [(10, 12)] = true := by kernel_rfl
theorem cNodeForms21_13 : runNodeForms [] (.int .i64 1) (.int .i64 7) [(13, 15)] = true := by kernel_rfl
theorem cNodeForms22_0 : runNodeForms [] (.int .i64 2) (.int .i64 7) [(0, 5)] = true := by kernel_rfl
end Go.Proofs.YtkcccjihafhmdaaGreat.Ev
