/-
  Proved: the call of cachetlaw23.WorldBag returns true at every input, and the input reads as it did. No condition.
-/
import Derived.Test.YticddijkkbcdmaaGreatRows
import Derived.Test.YticddijkkbcdmaaGreatRbZ3
import Derived.Test.YticddijkkbcdmaaGreatWorldBagF
import Derived.WalkKit
import Derived.ProofKit
import Derived.OpenShut
import Derived.Carry
import Derived.ChangeSlices
namespace Go.Proofs.YticddijkkbcdmaaGreat.worldBag
open Go Go.Proofs Go.ChangeShapes Go.WideShapes Go.ChangeAt Go.RowKit Go.Rm
set_option linter.unusedVariables false
theorem own:ownKnob Tryz.prog.godebug=none:=by kernel_rfl
set_option maxRecDepth 100000 in
theorem open_arg {H:Type} {enc:TypeId×Value→H} {W:World} {base:Nat} {v:Value} {d:DataW H} {p:List MemPlace} (hv:Value.okWide Tryz.prog W .any base 22 v) (h:DataW.Trod enc Tryz.prog W 0 (fun _=>true) true 22 v d p):∃zs ao c,v=.slice ao zs.length c∧IntsAt W ao zs:=by
  obtain⟨ao,n,c,rfl⟩:=okWide_slice Tryz.underlying22 hv
  obtain⟨fuel,hf⟩:=h
  rcases open_ints Tryz.underlying22 Tryz.underlying3 (by kernel_rfl) hf with⟨hcs, -⟩|⟨a,len,cap,zs,hcs, -,hle, -,hall, -,hcell, -⟩
  ·simp[Value.cells]at hcs
   obtain⟨rfl,rfl,rfl⟩:=hcs
   exact⟨[],_,_,rfl,fun h=>by simp at h⟩
  ·simp[Value.cells]at hcs
   obtain⟨rfl,rfl,rfl⟩:=hcs
   rw[if_pos rfl]at hall
   have hn:(zs.take n).length=n:=by rw[List.length_take];omega
   refine⟨zs.take n,_,_,by rw[hn],fun h0=>?_⟩
   obtain⟨b,off,rfl,hc⟩:=ints_at hcell (by omega)
   refine⟨b,off,rfl,fun j hj=>?_⟩
   rw[hc j (by omega)]
   congr 2
   rw[hn]at hj
   simp[List.getD,hj]
set_option maxRecDepth 100000 in
theorem lifted (os:Os) (started:os.Started) (H:Type) (enc:TypeId×Value→H):
    ReturnsInHanded {} Tryz.checked os 3 .any (Rows.worldBagSpec.pre6 enc Tryz.prog Tryz.f3 Rows.worldBagRow.domain false) (Rows.worldBagSpec.post enc Tryz.prog Tryz.f3 false true false false):=by
  refine returnsInHanded_of_change (C:=Tryz.checked) own started (by kernel_rfl) Tryz.func3
    (ChangeSpec.witness6 (enc:=enc) (C:=Tryz.checked) false ⟨#[],#[.slice none 0 0,.slice none 0 0],[]⟩ 8 (by kernel_rfl) (by kernel_rfl) (by kernel_rfl) (by kernel_rfl)) ?_
  intro W base args ds gs before hval0 hW hcnd _
  have hval:∀(j:Nat) t v,Tryz.f3.params[j]?=some t→args[j]?=some v→Value.okWide Tryz.prog W .any base t v:=hval0
  have hW':=hW
  obtain⟨p,q,hA0,hV,rfl,hfz,hnd⟩:=hW
  have hA:DataW.TrodAll enc Tryz.prog W 0 (fun _=>true) true Tryz.f3.params.toList args.toList ds p:=hA0
  rw[Tryz.params3]at hA hval
  obtain⟨v0,vs0,d0,ds0,p0,q0,hargs,rfl,rfl,h0,r0⟩:=trodAll_cons hA
  obtain⟨v1,vs1,d1,ds1,p1,q1,hargs1,rfl,rfl,h1,r1⟩:=trodAll_cons r0
  obtain⟨rfl,rfl,rfl⟩:=trodAll_nil r1
  obtain rfl:args=#[v0,v1]:=by cases args;simp_all
  obtain⟨rfl,rfl⟩:=trodVars_none hV
  have hlt:∀y∈p0++(p1++[]),y.block<W.heap.size:=fun y hy=>by simpa using hW'.lt y (by simpa using hy)
  obtain⟨zs,ao1,c1,rfl,hz⟩:=open_arg (hval 0 22 v0 rfl rfl) h0
  obtain⟨xs,ao2,c2,rfl,hx⟩:=open_arg (hval 1 22 v1 rfl rfl) h1
  refine(law_ok zs xs ao1 ao2 c1 c2 W hz hx).mono fun e W' ⟨he,hb⟩=>?_
  subst he
  exact⟨_,rfl,_,_,_,[],_,[],hW',trodAll_cons_mk (shut_bool Tryz.underlying4 true) trodAll_mk0,
    trodAll_cons_mk (Below.trod (by kernel_rfl) (by kernel_rfl) (of_decide_eq_true (by kernel_rfl)) h0 hb fun y hy=>hlt y (by simp[hy])) (trodAll_cons_mk (Below.trod (by kernel_rfl) (by kernel_rfl) (of_decide_eq_true (by kernel_rfl)) h1 hb fun y hy=>hlt y (by simp[hy])) trodAll_mk0),
    rfl,hb.frame _,fun h=>by cases h⟩
theorem over:Rows.worldBagRow.holds Tryz.pinned (OpenSpec.ofChange Rows.worldBagSpec):=
  OpenClaim.holds_of_wide 3 Tryz.f3 rfl rfl rfl rfl rfl rfl rfl ⟨rfl,rfl,rfl,rfl,rfl⟩ rfl rfl rfl rfl rfl (by kernel_rfl) Tryz.func3 worldBagFacts.closed
    (of_decide_eq_true (by kernel_rfl)) (by unfold Func.isWrapper;first|(rw[if_pos (by decide+kernel)];kernel_rfl)|(rw[if_neg (by decide+kernel)];exact⟨rfl,rfl⟩))
    (fun os started H enc _=>lifted os started H enc)
theorem proved:Rows.WorldBagSaid:=
  over
#print axioms proved
end Go.Proofs.YticddijkkbcdmaaGreat.worldBag
