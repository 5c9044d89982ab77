/-
  Proved: the call of cachetlaw26.RunMarks returns true at every input, and the input reads as it did. Its conditions: none beside the card's own (the listed tables lie as the program lays them).
-/
import Derived.Test.YthklkhndoojmfaaGreatDoorKxRow
import Derived.Test.YthklkhndoojmfaaGreatDoorKxGoes
import Derived.Test.YthklkhndoojmfaaGreatDoorRunMarksF
import Derived.WalkKit
import Derived.Carry
namespace Go.Proofs.YthklkhndoojmfaaGreatDoor.runMarks
open Go Go.Kx Go.Proofs Go.ChangeShapes Go.WideShapes Go.RowKit Go.ChangeMaps Go.Ev Go.Proofs.YthklkhndoojmfaaGreatDoor.Ev YthklkhndoojmfaaGreatDoor
set_option linter.unusedVariables false
set_option maxRecDepth 100000 in
theorem lifted (os:Os) (started:os.Started) (H:Type) (enc:TypeId×Value→H):
    ReturnsInHanded {} Tryz.checked os 3 .any (fun w args=>(Rows.runMarksSpec.pre enc Tryz.prog Tryz.f3 [] false w args∧laidMetH Tryz.prog Rows.runMarksRow.laid w)∧sizedMet enc Tryz.prog Tryz.f3 (OpenSpec.ofChange Rows.runMarksSpec) false w args)
      (Rows.runMarksSpec.post enc Tryz.prog Tryz.f3 false true false false):=by
  refine returns_and_shaped (C:=Tryz.checked) (X:=fun w _=>laidMetH Tryz.prog Rows.runMarksRow.laid w) (fun _ _ _ hh h=>h.of_heap hh) kOwn started (by kernel_rfl) Tryz.func3
    (ChangeSpec.witness_at (enc:=enc) (C:=Tryz.checked) (os:=os) (X:=fun w _=>laidMetH Tryz.prog Rows.runMarksRow.laid w) false (kWorld os) #[.slice none 0 0] 8 rfl (by kernel_rfl) (by kernel_rfl) (by kernel_rfl) (by kernel_rfl) (by kernel_rfl) (k_met os _)) ?_
  intro W base args ds gs before hval0 hW hlaid hsh
  have hval:∀(j:Nat) t v,Tryz.f3.params[j]?=some t→args[j]?=some v→Value.okWide Tryz.prog W .any base t v:=hval0
  have hW':=hW
  obtain⟨p,q,hA0,hV,rfl,hfz,hnd⟩:=hW
  have hA:DataW.TrodAll enc Tryz.prog W 0 (fun _=>true) true Tryz.f3.params.toList args.toList ds p:=hA0
  rw[Tryz.params3]at hA hval
  obtain⟨v0,d0,rfl,rfl,h0⟩:=trodAll_one hA
  obtain⟨rfl,rfl⟩:=trodVars_none hV
  have hlt:∀y∈p,y.block<W.heap.size:=fun y hy=>by simpa using hW'.lt y (by simp[hy])
  obtain⟨ao,n,c,rfl⟩:=okWide_slice Tryz.underlying22 (hval 0 22 v0 rfl rfl)
  have h0':=h0
  obtain⟨fuel,hf⟩:=h0
  have hgw:GW 0 1 3 W:=gw_of hsh hlaid
  have hin:∃zs:List Int,zs.length=n∧(0<zs.length→∃b off,ao=some ⟨b,off,none⟩∧∀j,j<zs.length→W.cell? ⟨b,off+j,none⟩=some (.int .i64 (zs.getD j 0))):=by
    rcases open_ints Tryz.underlying22 Tryz.underlying3 (by kernel_rfl) hf with⟨hcs, -⟩|⟨a,len,cap,zs,hcs, -,hle, -,hall, -,hcell, -⟩
    ·simp[Value.cells]at hcs
     obtain⟨rfl,rfl,rfl⟩:=hcs
     exact⟨[],rfl,fun h=>by simp at h⟩
    ·simp[Value.cells]at hcs
     obtain⟨rfl,rfl,rfl⟩:=hcs
     rw[if_pos rfl]at hall
     have hn:(zs.take n).length=n:=by rw[List.length_take];omega
     refine⟨zs.take n,hn,fun h0=>?_⟩
     obtain⟨b,off,rfl,hc⟩:=ints_at hcell (by omega)
     refine⟨b,off,rfl,fun j hj=>?_⟩
     rw[hc j (by omega)]
     congr 2
     rw[hn]at hj
     simp[List.getD,hj]
  obtain⟨zs,rfl,hc⟩:=hin
  refine(Go.Rm.law_ok zs ao c W hc (Go.Ry.gl_of hsh hlaid) hgw).mono fun e W' ⟨he,hb⟩=>?_
  subst he
  exact⟨_,rfl,_,_,_,[],p,[],hW',trodAll_mk1 (shut_bool Tryz.underlying4 true),trodAll_mk1 (Below.trod (by kernel_rfl) (by kernel_rfl) (of_decide_eq_true (by kernel_rfl)) h0' hb hlt),rfl,hb.frame _,fun h=>by cases h⟩
theorem over:Rows.runMarksRow.holds Tryz.pinned (OpenSpec.ofChange Rows.runMarksSpec):=
  OpenClaim.holds_of_wide 3 Tryz.f3 rfl rfl rfl rfl rfl rfl rfl ⟨rfl,rfl,rfl,rfl,rfl⟩ rfl rfl rfl rfl rfl (by kernel_rfl) Tryz.func3 runMarksFacts.closed
    (of_decide_eq_true (by kernel_rfl)) (by unfold Func.isWrapper;first|(rw[if_pos (by decide+kernel)];kernel_rfl)|(rw[if_neg (by decide+kernel)];exact⟨rfl,rfl⟩))
    (fun os started H enc _=>lifted os started H enc)
theorem w1:Rows.runMarksRow.wfByText (OpenSpec.ofChange Rows.runMarksSpec)=true:=by kernel_rfl
theorem w2:Tryz.pinned.checked.prog.mainIs=some (true, "08ebb4daed11b8f7aa4cab63f6797b01da4f2407b057fcef4b40841393881e55".toList):=by kernel_rfl
theorem w3:true=Tryz.pinned.checked.prog.looks []:=by kernel_rfl
theorem w4:false=Rows.runMarksRow.goesBy Tryz.pinned.checked.prog:=goesBy_no rfl none_goes
theorem w5:Tryz.prog.funcNamed "cachet/cachetlaw26.RunMarks" =some 3:=by kernel_rfl
theorem w6:Tryz.prog.wantsStandIn 22=false:=by kernel_rfl
theorem proved:Rows.RunMarksCardSaid:=
  Claim7.holds_tied_plain_at .later [] [.data,.data,.data,.data,.sentinel,.sentinel,.pinned] true (true, "08ebb4daed11b8f7aa4cab63f6797b01da4f2407b057fcef4b40841393881e55") true
    over (fun _ h=>by cases h) w1 (fun _ h=>by cases h) runMarks_row_tie rfl ⟨rfl,rfl⟩ w2 rfl
    (fun f fn hf hfn=>by
      obtain rfl:f=3:=Option.some.inj (w5.symm.trans hf) |>.symm
      obtain rfl:fn=Tryz.f3:=(Option.some.inj (Tryz.func3.symm.trans hfn)).symm
      exact⟨w3,fun j t ht=>by
        rw[Tryz.params3]at ht
        rcases j with _|j
        ·obtain rfl:t=22:=by simpa using ht.symm
         exact w6
        ·simp at ht⟩)
    w4
#print axioms proved
end Go.Proofs.YthklkhndoojmfaaGreatDoor.runMarks
