/-
  NodeForms: cases, part 9.
-/
import Derived.Test.YtkcccjihafhmdaaGreatNodeFormsC0
import Derived.KernelRfl
set_option maxRecDepth 1000000
namespace Go.Proofs.YtkcccjihafhmdaaGreat.Ev
open Go.Ev
theorem cNodeForms26_6 : runNodeForms [] (.int .i64 6) (.int .i64 7) [(6, 9)] = true := by kernel_rfl
theorem cNodeForms26_10 : runNodeForms [] (.int .i64 6) (.int .i64 7) [(10, 12)] = true := by kernel_rfl
theorem cNodeForms26_13 : runNodeForms [] (.int .i64 6) (.int .i64 7) [(13, 15)] = true := by kernel_rfl
theorem cNodeForms27_0 : runNodeForms [⟨.geq, .i64, 0, 0, .bool true⟩, ⟨.lss, .i64, 0, 0, .bool false⟩, ⟨.lss, .i64, 0, 7, .bool false⟩, ⟨.geq, .i64, 0, 7, .bool true⟩] (.sym .i64 0) (.int .i64 7) [(0, 15)] = true := by kernel_rfl
theorem cNodeForms28_0 : runNodeForms [⟨.geq, .i64, 1, 1, .bool true⟩, ⟨.leq, .i64, 1, 7, .bool false⟩, ⟨.eql, .i64, 1, 1, .bool false⟩, ⟨.eql, .i64, 1, 3, .bool false⟩, ⟨.eql, .i64, 1, 5, .bool false⟩, ⟨.eql, .i64, 1, 7, .bool false⟩] (.sym .i64 0) (.sym .i64 1) [(0, 15)] = true := by kernel_rfl
end Go.Proofs.YtkcccjihafhmdaaGreat.Ev
