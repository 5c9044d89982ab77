/-
  No function of the program starts a goroutine.
-/
import Derived.Test.YteojiklbcfbliaaGreatDoorRows
import Derived.KernelRfl
import Derived.SevenTiedAt
set_option linter.unusedVariables false
set_option linter.unusedSimpArgs false
noncomputable section
set_option maxRecDepth 1000000
namespace Go.Kx
open Go Go.Proofs
theorem none_goes : Tryz.prog.funcs.toList.any Func.goes = false:=by kernel_rfl
theorem goes_no {P : Program} (h : P.funcs.toList.any Func.goes = false) (f : FuncId) : P.goes f = false:=by
 have hall : ∀ fn ∈ P.funcs.toList,Func.goes fn = false:=by
  intro fn hfn
  have:=List.any_eq_false.1 h fn hfn
  simpa using this
 unfold Program.goes
 have h1 : P.funcs.any Func.goes = false:=by rw [← Array.any_toList]; exact h
 rw [h1,Bool.and_false,Bool.or_false]
 have key : ∀ g : FuncId,(P.funcs[g]?).any Func.goes = false:=by
  intro g
  cases hq : P.funcs[g]? with
  | none=>rfl
  | some fn =>
   show Func.goes fn = false
   refine hall fn ?_
   have : fn ∈ P.funcs:=Array.mem_of_getElem? hq
   simpa using this
 simp [key]
theorem goesBy_no {c : OpenClaim} (hs : c.start = .entering) (h : Tryz.prog.funcs.toList.any Func.goes = false) : false = c.goesBy Tryz.prog:=by
 unfold OpenClaim.goesBy Program.goesAt Program.goesFrom
 rw [hs]
 cases Tryz.prog.funcNamed c.func with
 | none=>rfl
 | some f=>simp [goes_no h f]
end Go.Kx
