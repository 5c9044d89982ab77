/-
  The world of a call: what the law's walk asks of it.
-/
import Derived.Test.YteojiklbcfbliaaGreatDoorKxRow
import Derived.Test.YteojiklbcfbliaaGreatDoorRnU
set_option linter.unusedVariables false
set_option linter.unusedSimpArgs false
noncomputable section
namespace Go.Ry
open Go Go.Conc Go.Proofs Go.RowKit Go.Kn Go.Kx Go.Ev
theorem gl_of {W : World} (h : W.ShapedOpen Tryz.prog) (hl : laidMetH Tryz.prog Go.Proofs.YteojiklbcfbliaaGreatDoor.Rows.runNumbersRow.laid W) : Gl W:=by
 obtain ⟨m,h0⟩:=max_cell h
 obtain ⟨ty,fr,h2⟩:=tab_cells (show laidMet Tryz.prog Go.Proofs.YteojiklbcfbliaaGreatDoor.Rows.runNumbersRow.laid W from hl)
 have hlt : 3 < W.heap.size:=(Array.getElem?_eq_some_iff.1 h2).1
 refine ⟨λV hb=>?_,⟨m,h0⟩,by omega⟩
 have hn : Tryz.prog.globalNamed "internal/strconv.uint64pow10" = some 3 := by kernel_rfl
 unfold Lib.TabIs World.var?
 rw [hn]
 show (match V.heap[3]? with | some (.cells cs _ _)=>some cs | _=>none) = _
 rw [hb.block 3 hlt,h2]
theorem awake_ok {W : World} (hgw : GW 0 1 3 W) : Calls Tryz.prog 4 #[] W λe w'=>e = .returned (.bool true) ∧ Below W.heap.size W w' :=
 (Go.Proofs.YteojiklbcfbliaaGreatDoor.Ev.awakeG W hgw).mono λe w' h=>⟨h.1,same_below h.2⟩
end Go.Ry
