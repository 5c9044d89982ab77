/-
  run.same at an act beside itself: by the evaluator, the number open.
-/
import Derived.Test.YteojiklbcfbliaaGreatDoorBaseA
import Derived.Test.YteojiklbcfbliaaGreatDoorRnD
set_option linter.unusedVariables false
set_option linter.unusedSimpArgs false
noncomputable section
set_option maxRecDepth 1000000
namespace Go.Proofs.YteojiklbcfbliaaGreatDoor.Ev
open Go.Ev Go.Proofs
def actA : AV:=.ag [.int .i64 3,.sym .i64 0,.int .i64 0,.int .i64 0,.int .i64 0,.int .i64 0,.int .i64 0,.int .i64 0,.int .i64 0,.int .i64 0,.int .i64 0,.int .i64 0,.int .i64 0,.int .i64 0,.int .i64 0,.int .i64 0,.int .i64 0,.int .i64 0,.str 0 0,.nsl,.int .i64 0,.str 0 0,.nsl,.str 0 0]
theorem sameRuns : hcall (noOrc zz) KT0.find FT.find 60 17 [actA,actA] (λ_=>none) [] 0 isR [] = true:=by kernel_rfl
theorem same_ok (x : Int) (w : World) : Calls Tryz.prog 17 #[.agg (Go.Ry.actC 3 x).toArray,.agg (Go.Ry.actC 3 x).toArray] w λe w'=>e = .returned (.bool true) ∧ Fr (λ_=>none) [] w w':=by
 have hv : AVR (λ_=>x) (λ_=>none) w actA (.agg (Go.Ry.actC 3 x).toArray):=by
  refine ⟨Go.Ry.actC 3 x,rfl,?_⟩
  have hs : VR (λ_=>x) (λ_=>none) w (.str 0 0) (.string ⟨#[]⟩):=⟨by decide,rfl⟩
  exact ⟨rfl,rfl,rfl,rfl,rfl,rfl,rfl,rfl,rfl,rfl,rfl,rfl,rfl,rfl,rfl,rfl,rfl,rfl,hs,rfl,rfl,hs,rfl,hs,trivial⟩
 exact lawH (T:=TT λ_=>0) (val:=λ_=>x) zz_not isR_elim (noOrc_ok zz_not _) mixed (KTree.ok (kt0Ok _ _)) ftOk ⟨[],(λj p h=>by simp at h),sameRuns⟩ w [.agg (Go.Ry.actC 3 x).toArray,.agg (Go.Ry.actC 3 x).toArray] ⟨hv,hv,trivial⟩
end Go.Proofs.YteojiklbcfbliaaGreatDoor.Ev
