/-
  NodeForms: cases, part 1.
-/
import Derived.Test.YtkcccjihafhmdaaGreatNodeFormsC0
import Derived.KernelRfl
set_option maxRecDepth 1000000
namespace Go.Proofs.YtkcccjihafhmdaaGreat.Ev
open Go.Ev
theorem cNodeForms0_0 : runNodeForms [⟨.geq, .i64, 1, 1, .bool false⟩, ⟨.eql, .i64, 1, 1, .bool false⟩, ⟨.eql, .i64, 1, 3, .bool false⟩, ⟨.eql, .i64, 1, 5, .bool false⟩, ⟨.eql, .i64, 1, 7, .bool false⟩] (.sym .i64 0) (.sym .i64 1) [(0, 15)] = true := by kernel_rfl
theorem cNodeForms1_0 : runNodeForms [⟨.geq, .i64, 0, 0, .bool false⟩, ⟨.lss, .i64, 0, 0, .bool true⟩] (.sym .i64 0) (.int .i64 1) [(0, 15)] = true := by kernel_rfl
theorem cNodeForms2_0 : runNodeForms [] (.int .i64 0) (.int .i64 1) [(0, 5)] = true := by kernel_rfl
theorem cNodeForms2_6 : runNodeForms [] (.int .i64 0) (.int .i64 1) [(6, 9)] = true := by kernel_rfl
theorem cNodeForms2_10 : runNodeForms [] (.int .i64 0) (.int .i64 1) [(10, 12)] = true := by kernel_rfl
theorem cNodeForms2_13 : runNodeForms [] (.int .i64 0) (.int .i64 1) [(13, 15)] = true := by kernel_rfl
theorem cNodeForms3_0 : runNodeForms [⟨.geq, .i64, 0, 0, .bool true⟩, ⟨.lss, .i64, 0, 0, .bool false⟩, ⟨.lss, .i64, 0, 1, .bool false⟩, ⟨.geq, .i64, 0, 1, .bool true⟩] (.sym .i64 0) (.int .i64 1) [(0, 15)] = true := by kernel_rfl
theorem cNodeForms4_0 : runNodeForms [] (.sym .i64 0) (.int .i64 2) [(0, 15)] = true := by kernel_rfl
theorem cNodeForms5_0 : runNodeForms [⟨.geq, .i64, 0, 0, .bool false⟩, ⟨.lss, .i64, 0, 0, .bool true⟩] (.sym .i64 0) (.int .i64 3) [(0, 15)] = true := by kernel_rfl
theorem cNodeForms6_0 : runNodeForms [] (.int .i64 0) (.int .i64 3) [(0, 5)] = true := by kernel_rfl
theorem cNodeForms6_6 : runNodeForms [] (.int .i64 0) (.int .i64 3) [(6, 9)] = true := by kernel_rfl
theorem cNodeForms6_10 : runNodeForms [] (.int .i64 0) (.int .i64 3) [(10, 12)] = true := by kernel_rfl
end Go.Proofs.YtkcccjihafhmdaaGreat.Ev
