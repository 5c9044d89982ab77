/-
  Proved: the call of cachetlaw17.ReplicaReceives returns true at every input. No condition.
-/
import Derived.Test.YtnnjlnkoomeadaaGreatReplicaReceivesP11
import Derived.Test.YtnnjlnkoomeadaaGreatRows
import Derived.WalkKit
import Derived.ProofKit
import Derived.OpenShut
import Derived.SizedLaws
namespace Go.Proofs.YtnnjlnkoomeadaaGreat.replicaReceives
open Go.ChangeShapes Go.WideShapes Go.ChangeAt Go.RowKit
set_option linter.unusedVariables false
theorem own:ownKnob Tryz.prog.godebug=none:=by kernel_rfl
theorem aw:Pv.BoolC Tryz.prog Pv.n_Qdn [] (fun _=>True) true:=Go.Ev.Qrj (by kernel_rfl) Pv.awake17
theorem lgsz {l:Go.Ev.Rp.Lg} (h:Pv.LgW l):Pv.LgSz l:=⟨by have:=h.ents;unfold reachBytes at this;omega,fun e he=>by have:=h.bat e he;unfold reachBytes at this;omega⟩
theorem lndlg {l:Go.Ev.Rp.Lg} (h:Pv.LgW l):Pv.LndLg l:=⟨by have:=h.ents;unfold reachBytes at this;omega,fun e he=>by have:=h.bat e he;unfold reachBytes at this;omega⟩
theorem repsz {r:Go.Ev.Rp.Rep} (h:Pv.RepW r):Pv.RepSz r:=⟨lgsz h.log,by have:=h.acks;unfold reachBytes at this;omega,by have:=h.starts;unfold reachBytes at this;omega,by have:=h.dos;unfold reachBytes at this;omega,fun d hd=>lgsz (h.dlog d hd)⟩
theorem lndsz {r:Go.Ev.Rp.Rep} (h:Pv.RepW r):Pv.LndSz r:=⟨lndlg h.log,by have:=h.acks;unfold reachBytes at this;omega,by have:=h.starts;unfold reachBytes at this;omega,by have:=h.dos;unfold reachBytes at this;omega,fun d hd=>lndlg (h.dlog d hd)⟩
theorem tys:∀t∈Tryz.f5.params.toList,Tryz.prog.readableRec t=true/\t<Tryz.prog.types.size:=by
  rw[Tryz.params5];intro t ht;simp only[List.mem_cons,List.not_mem_nil,or_false]at ht;rcases ht with rfl|rfl
  ·exact⟨by kernel_rfl,of_decide_eq_true (by kernel_rfl)⟩
  ·exact⟨by kernel_rfl,of_decide_eq_true (by kernel_rfl)⟩
set_option maxRecDepth 100000 in
theorem lifted (os:Os) (started:os.Started) (H:Type) (enc:TypeId×Value->H):
    ReturnsInHanded {} Tryz.checked os 5 .any (Rows.replicaReceivesSpec.pre6 enc Tryz.prog Tryz.f5 Rows.replicaReceivesRow.domain false) (Rows.replicaReceivesSpec.post enc Tryz.prog Tryz.f5 false true false false):=by
  refine returnsInHanded_of_change_sized (C:=Tryz.checked) own started (by kernel_rfl) Tryz.func5
    (ChangeSpec.witness6 (enc:=enc) (C:=Tryz.checked) false ⟨#[],#[.agg #[.int .i64 0,.int .i64 0,.int .i64 0,.int .i64 0,.int .i64 0,.int .i64 0,.bool false,.int .i64 0,.string ⟨#[]⟩,.slice none 0 0,.slice none 0 0,.slice none 0 0,.slice none 0 0],.agg #[.int .i64 0,.int .i64 0,.int .i64 0,.int .i64 0,.int .i64 0,.int .i64 0,.int .i64 0,.int .i64 0,.int .i64 0,.int .i64 0,.int .i64 0,.int .i64 0,.int .i64 0,.int .i64 0,.string ⟨#[]⟩,.slice none 0 0,.int .i64 0,.string ⟨#[]⟩,.slice none 0 0,.string ⟨#[]⟩]],[]⟩ 8 (by kernel_rfl) (by kernel_rfl) (by kernel_rfl) (by kernel_rfl)) ?_
  intro W base args ds gs before hval0 hW hcnd hsz _;have hval:∀(j:Nat) t v,Tryz.f5.params[j]?=some t->args[j]?=some v->Value.okWide Tryz.prog W .any base t v:=hval0;have hW':=hW;obtain⟨p,q,hA0,hV,rfl,hfz,hnd⟩:=hW;have hA:DataW.TrodAll enc Tryz.prog W 0 (fun _=>true) true Tryz.f5.params.toList args.toList ds p:=hA0;rw[Tryz.params5]at hA hval;obtain⟨v0,vs0,d0,ds0,p0,q0,hargs,rfl,rfl,h0,r0⟩:=trodAll_cons hA;obtain⟨v1,vs1,d1,ds1,p1,q1,rfl,rfl,rfl,h1,r1⟩:=trodAll_cons r0;obtain⟨rfl,rfl,rfl⟩:=trodAll_nil r1;obtain rfl:args=#[v0,v1]:=by cases args;simp_all
  obtain⟨rfl,rfl⟩:=trodVars_none hV;have hv0:=hval 0 28 v0 rfl rfl;unfold Value.okWide at hv0;rw[Tryz.underlying28]at hv0;obtain⟨cs0,rfl,_,_⟩:=hv0;obtain⟨fuel0,h0⟩:=h0;have hwt0:∀k∈d0.weights Tryz.prog 28,k<=reachBytes:=fun k hk=>by
    have:=List.all_eq_true.1 hsz k (Go.Ev.Qjj (i:=0) (t:=28) (d:=d0) rfl rfl k hk);simpa using this
  obtain⟨n0,fz0,ρ0,c0,hi0,hX0,hvr0,hkn0,xe0,xa0,xs0,xd0,y0,rfl,s0,w0⟩:=Pv.im_rep fuel0 _ _ _ h0 hwt0 0 _ _ (Go.Ev.Imp.nil W);have hv1:=hval 1 48 v1 rfl rfl;unfold Value.okWide at hv1;rw[Tryz.underlying48]at hv1;obtain⟨cs1,rfl,_,_⟩:=hv1;obtain⟨fuel1,h1⟩:=h1;have hwt1:∀k∈d1.weights Tryz.prog 48,k<=reachBytes:=fun k hk=>by
    have:=List.all_eq_true.1 hsz k (Go.Ev.Qjj (i:=1) (t:=48) (d:=d1) rfl rfl k hk);simpa using this
  obtain⟨n1,fz1,ρ1,c1,hi1,hX1,hvr1,hkn1,xb1,xe1,y1,rfl,s1,w1⟩:=Pv.im_msg fuel1 _ _ _ h1 hwt1 _ _ _ hi0;replace hvr0:=hX1.vrs hvr0;replace s0:=Pv.RepS.mono hX1.fz s0;have hcp:=(Pv.Qii Pv.fs Ev.sortC Ev.insC Ev.insDC aw y0 xe0 xa0 xs0 xd0 y1 xb1 xe1 (lndsz w0) ⟨by have:=w1.bat;unfold reachBytes at this;omega,lndlg w1.log⟩) fz1 [] n1 (fun v _ _=>v=.one (.bool true)) hi1.free ⟨s0,s1⟩ fun v mu' n' _ hv=>hv;refine(Go.Ev.Qrt hcp hi1 (xs:=[.agg cs0,.agg cs1]) ⟨⟨cs0.toList,rfl,hvr0⟩,⟨cs1.toList,rfl,hvr1⟩,trivial⟩).mono fun e W' ⟨he,hf⟩=>⟨_,he,?_⟩
  exact Go.Ev.post_law (by kernel_rfl) tys rfl rfl Tryz.underlying4 rfl rfl rfl hW' hf
theorem over:Rows.replicaReceivesRow.holds Tryz.pinned (OpenSpec.ofChange Rows.replicaReceivesSpec):=
  OpenClaim.holds_of_wide 5 Tryz.f5 rfl rfl rfl rfl rfl rfl rfl ⟨rfl,rfl,rfl,rfl,rfl⟩ rfl rfl rfl rfl rfl (by kernel_rfl) Tryz.func5 (by kernel_rfl)
    (of_decide_eq_true (by kernel_rfl)) (by unfold Func.isWrapper;first|(rw[if_pos (by decide+kernel)];kernel_rfl)|(rw[if_neg (by decide+kernel)];exact⟨rfl,rfl⟩))
    (fun os started H enc _=>lifted os started H enc)

/-- THE STATEMENT -/
theorem proved:Rows.ReplicaReceivesSaid:=
  over
#print axioms proved
end Go.Proofs.YtnnjlnkoomeadaaGreat.replicaReceives
