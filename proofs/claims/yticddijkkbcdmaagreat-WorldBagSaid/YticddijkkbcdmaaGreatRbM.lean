/-
  The library's functions at this program: the layings of the shelf's contracts, in plain words.
-/
import Derived.Test.YticddijkkbcdmaaGreatEwM8
import Derived.Test.YticddijkkbcdmaaGreatRows
import Derived.Scope
import Derived.WalkMore
import Derived.Deep.Cut
import Derived.Maps.AppendAt
import Derived.Shelf.Abstract
import Derived.WalkKit
import Derived.OwnWalkIn
import Derived.TacticsInMore
import Derived.LoopNIn
import Derived.LoopIn
import Derived.Test.YticddijkkbcdmaaGreatEvOk2
import Derived.KernelRfl
import Derived.Test.YticddijkkbcdmaaGreatRbC
set_option linter.unusedVariables false
set_option linter.unusedSimpArgs false
noncomputable section
set_option maxRecDepth 100000
namespace Go.Proofs
open Go.Shelf
def Tryz.lWrite_ren:Go.Shelf.Ren:=⟨fun|166=>168|240=>228|276=>270|n=>n,fun|0=>0|1=>1|3=>3|4=>4|5=>5|9=>9|20=>20|37=>116|70=>237|72=>239|75=>241|80=>153|127=>298|164=>333|n=>n,fun|n=>n⟩
theorem Tryz.lWrite:Go.Proofs.Lays.n166 Tryz.prog Tryz.lWrite_ren:={
 mixed:=by kernel_rfl
 f166:=Tryz.func168.trans (congrArg some (by kernel_rfl))
 f240:=Tryz.func228.trans (congrArg some (by kernel_rfl))
 f276:=Tryz.func270.trans (congrArg some (by kernel_rfl))
 t0:=Tryz.underlying0
 a0:=Tryz.isAgg0
 z0:=Tryz.sizeOf0
 v0:=Tryz.zeroValue0
 t3:=Tryz.underlying3
 a3:=Tryz.isAgg3
 z3:=Tryz.sizeOf3
 v3:=Tryz.zeroValue3
 t4:=Tryz.underlying4
 a4:=Tryz.isAgg4
 z4:=Tryz.sizeOf4
 v4:=Tryz.zeroValue4
 t9:=Tryz.underlying9
 a9:=Tryz.isAgg9
 z9:=Tryz.sizeOf9
 v9:=Tryz.zeroValue9
 t20:=Tryz.underlying20
 a20:=Tryz.isAgg20
 z20:=Tryz.sizeOf20
 v20:=Tryz.zeroValue20
 t37:=Tryz.underlying116
 a37:=Tryz.isAgg116
 z37:=Tryz.sizeOf116
 v37:=Tryz.zeroValue116
 t70:=Tryz.underlying237
 a70:=Tryz.isAgg237
 z70:=Tryz.sizeOf237
 v70:=Tryz.zeroValue237
 t72:=Tryz.underlying239
 a72:=Tryz.isAgg239
 z72:=Tryz.sizeOf239
 v72:=Tryz.zeroValue239
 t75:=Tryz.underlying241
 a75:=Tryz.isAgg241
 z75:=Tryz.sizeOf241
 v75:=Tryz.zeroValue241
 t164:=Tryz.underlying333
 a164:=Tryz.isAgg333
 z164:=Tryz.sizeOf333
 v164:=Tryz.zeroValue333}
theorem Tryz.lWrite_x:Go.Proofs.Builder.Extra Tryz.prog Tryz.lWrite_ren:={
 sizeBuilder:=by kernel_rfl
 liesBuilder:=by kernel_rfl
 t5:=Tryz.underlying5
 a5:=Tryz.isAgg5
 z5:=Tryz.sizeOf5
 v5:=Tryz.zeroValue5
 infoByte:=by kernel_rfl
 cellsByte:=by kernel_rfl
 sizeByte:=by kernel_rfl
 neB5:=by decide}
def Tryz.lString_ren:Go.Shelf.Ren:=⟨fun|169=>171|n=>n,fun|0=>0|1=>1|3=>3|5=>5|9=>9|37=>116|70=>237|72=>239|80=>153|127=>298|n=>n,fun|n=>n⟩
theorem Tryz.lString:Go.Proofs.Lays.n169 Tryz.prog Tryz.lString_ren:={
 mixed:=by kernel_rfl
 f169:=Tryz.func171.trans (congrArg some (by kernel_rfl))
 t0:=Tryz.underlying0
 a0:=Tryz.isAgg0
 z0:=Tryz.sizeOf0
 v0:=Tryz.zeroValue0
 t3:=Tryz.underlying3
 a3:=Tryz.isAgg3
 z3:=Tryz.sizeOf3
 v3:=Tryz.zeroValue3
 t9:=Tryz.underlying9
 a9:=Tryz.isAgg9
 z9:=Tryz.sizeOf9
 v9:=Tryz.zeroValue9
 t37:=Tryz.underlying116
 a37:=Tryz.isAgg116
 z37:=Tryz.sizeOf116
 v37:=Tryz.zeroValue116
 t70:=Tryz.underlying237
 a70:=Tryz.isAgg237
 z70:=Tryz.sizeOf237
 v70:=Tryz.zeroValue237
 t72:=Tryz.underlying239
 a72:=Tryz.isAgg239
 z72:=Tryz.sizeOf239
 v72:=Tryz.zeroValue239
 t127:=Tryz.underlying298
 a127:=Tryz.isAgg298
 z127:=Tryz.sizeOf298
 v127:=Tryz.zeroValue298}
theorem Tryz.lString_x:Go.Proofs.Builder.Extra Tryz.prog Tryz.lString_ren:={
 sizeBuilder:=by kernel_rfl
 liesBuilder:=by kernel_rfl
 t5:=Tryz.underlying5
 a5:=Tryz.isAgg5
 z5:=Tryz.sizeOf5
 v5:=Tryz.zeroValue5
 infoByte:=by kernel_rfl
 cellsByte:=by kernel_rfl
 sizeByte:=by kernel_rfl
 neB5:=by decide}
def Tryz.lKeys1_ren:Go.Shelf.Ren:=⟨fun|10=>166|n=>n,fun|33=>84|23=>167|0=>0|4=>4|26=>3|3=>170|n=>n,fun|n=>n⟩
theorem Tryz.lKeys1:Go.Proofs.SlLaysZI.n10 Tryz.prog Tryz.lKeys1_ren:={
 mixed:=by kernel_rfl
 f10:=⟨Tryz.f166.name,by decide,Tryz.func166.trans (congrArg some (by kernel_rfl))⟩
 t0:=Tryz.underlying0
 a0:=Tryz.isAgg0
 z0:=Tryz.sizeOf0
 v0:=Tryz.zeroValue0
 t4:=Tryz.underlying4
 a4:=Tryz.isAgg4
 z4:=Tryz.sizeOf4
 v4:=Tryz.zeroValue4
 t23:=Tryz.underlying167
 a23:=Tryz.isAgg167
 z23:=Tryz.sizeOf167
 v23:=Tryz.zeroValue167
 t26:=Tryz.underlying3
 a26:=Tryz.isAgg3
 z26:=Tryz.sizeOf3
 v26:=Tryz.zeroValue3
 t33:=Tryz.underlying84
 a33:=Tryz.isAgg84
 z33:=Tryz.sizeOf84
 v33:=Tryz.zeroValue84}
def Tryz.lKeys_ren:Go.Shelf.Ren:=⟨fun|7=>107|10=>166|n=>n,fun|23=>167|26=>3|3=>170|28=>165|0=>0|27=>164|33=>84|4=>4|n=>n,fun|n=>n⟩
theorem Tryz.lKeys:Go.Proofs.SlLaysZI.n7 Tryz.prog Tryz.lKeys_ren:={
 mixed:=by kernel_rfl
 f7:=⟨Tryz.f107.name,by decide,Tryz.func107.trans (congrArg some (by kernel_rfl))⟩
 f10:=⟨Tryz.f166.name,by decide,Tryz.func166.trans (congrArg some (by kernel_rfl))⟩
 t0:=Tryz.underlying0
 a0:=Tryz.isAgg0
 z0:=Tryz.sizeOf0
 v0:=Tryz.zeroValue0
 t4:=Tryz.underlying4
 a4:=Tryz.isAgg4
 z4:=Tryz.sizeOf4
 v4:=Tryz.zeroValue4
 t23:=Tryz.underlying167
 a23:=Tryz.isAgg167
 z23:=Tryz.sizeOf167
 v23:=Tryz.zeroValue167
 t26:=Tryz.underlying3
 a26:=Tryz.isAgg3
 z26:=Tryz.sizeOf3
 v26:=Tryz.zeroValue3
 t27:=Tryz.underlying164
 a27:=Tryz.isAgg164
 z27:=Tryz.sizeOf164
 v27:=Tryz.zeroValue164
 t28:=Tryz.underlying165
 a28:=Tryz.isAgg165
 z28:=Tryz.sizeOf165
 v28:=Tryz.zeroValue165
 t33:=Tryz.underlying84
 a33:=Tryz.isAgg84
 z33:=Tryz.sizeOf84
 v33:=Tryz.zeroValue84}
def Tryz.lSorted_ren:Go.Shelf.Ren:=⟨fun|6=>106|8=>164|9=>165|11=>225|13=>227|12=>226|23=>268|24=>269|14=>260|15=>261|16=>262|17=>263|18=>264|19=>265|20=>238|21=>266|22=>267|25=>291|26=>292|27=>293|28=>294|29=>295|30=>277|31=>308|n=>n,fun|26=>3|28=>165|24=>22|0=>0|3=>3|37=>39|48=>252|50=>168|4=>4|40=>326|39=>325|45=>268|5=>5|9=>9|51=>354|55=>137|57=>374|58=>139|33=>84|n=>n,fun|n=>n⟩
theorem Tryz.lSorted:Go.Proofs.SlLaysZI.n6 Tryz.prog Tryz.lSorted_ren:={
 mixed:=by kernel_rfl
 f6:=⟨Tryz.f106.name,by decide,Tryz.func106.trans (congrArg some (by kernel_rfl))⟩
 f8:=⟨Tryz.f164.name,by decide,Tryz.func164.trans (congrArg some (by kernel_rfl))⟩
 f11:=⟨Tryz.f225.name,by decide,Tryz.func225.trans (congrArg some (by kernel_rfl))⟩
 t0:=Tryz.underlying0
 a0:=Tryz.isAgg0
 z0:=Tryz.sizeOf0
 v0:=Tryz.zeroValue0
 t24:=Tryz.underlying22
 a24:=Tryz.isAgg22
 z24:=Tryz.sizeOf22
 v24:=Tryz.zeroValue22
 t26:=Tryz.underlying3
 a26:=Tryz.isAgg3
 z26:=Tryz.sizeOf3
 v26:=Tryz.zeroValue3
 t28:=Tryz.underlying165
 a28:=Tryz.isAgg165
 z28:=Tryz.sizeOf165
 v28:=Tryz.zeroValue165
 i26:=by kernel_rfl}
def Tryz.lSort_ren:Go.Shelf.Ren:=⟨fun|5=>165|8=>227|7=>226|19=>268|20=>269|10=>260|11=>261|12=>262|13=>263|14=>264|15=>265|16=>238|17=>266|18=>267|30=>291|31=>292|32=>293|33=>294|34=>295|35=>277|40=>308|n=>n,fun|23=>22|25=>3|3=>3|32=>39|22=>22|0=>0|44=>252|46=>168|4=>4|36=>326|35=>325|41=>268|5=>5|9=>9|53=>354|57=>137|63=>374|64=>139|n=>n,fun|n=>n⟩
theorem Tryz.lSort:Go.Proofs.SlLaysM.n5 Tryz.prog Tryz.lSort_ren:={
 mixed:=by kernel_rfl
 f5:=⟨Tryz.f165.name,by decide,Tryz.func165.trans (congrArg some (by kernel_rfl))⟩
 f7:=⟨Tryz.f226.name,by decide,Tryz.func226.trans (congrArg some (by kernel_rfl))⟩
 f8:=Tryz.func227.trans (congrArg some (by kernel_rfl))
 f10:=⟨Tryz.f260.name,by decide,Tryz.func260.trans (congrArg some (by kernel_rfl))⟩
 f11:=⟨Tryz.f261.name,by decide,Tryz.func261.trans (congrArg some (by kernel_rfl))⟩
 f12:=⟨Tryz.f262.name,by decide,Tryz.func262.trans (congrArg some (by kernel_rfl))⟩
 f13:=⟨Tryz.f263.name,by decide,Tryz.func263.trans (congrArg some (by kernel_rfl))⟩
 f14:=⟨Tryz.f264.name,by decide,Tryz.func264.trans (congrArg some (by kernel_rfl))⟩
 f15:=⟨Tryz.f265.name,by decide,Tryz.func265.trans (congrArg some (by kernel_rfl))⟩
 f16:=⟨Tryz.f238.name,by decide,Tryz.func238.trans (congrArg some (by kernel_rfl))⟩
 f17:=⟨Tryz.f266.name,by decide,Tryz.func266.trans (congrArg some (by kernel_rfl))⟩
 f18:=⟨Tryz.f267.name,by decide,Tryz.func267.trans (congrArg some (by kernel_rfl))⟩
 f19:=Tryz.func268.trans (congrArg some (by kernel_rfl))
 f20:=Tryz.func269.trans (congrArg some (by kernel_rfl))
 f30:=⟨Tryz.f291.name,by decide,Tryz.func291.trans (congrArg some (by kernel_rfl))⟩
 f31:=Tryz.func292.trans (congrArg some (by kernel_rfl))
 f32:=Tryz.func293.trans (congrArg some (by kernel_rfl))
 f33:=⟨Tryz.f294.name,by decide,Tryz.func294.trans (congrArg some (by kernel_rfl))⟩
 f34:=⟨Tryz.f295.name,by decide,Tryz.func295.trans (congrArg some (by kernel_rfl))⟩
 f35:=⟨Tryz.f277.name,by decide,Tryz.func277.trans (congrArg some (by kernel_rfl))⟩
 f40:=⟨Tryz.f308.name,by decide,Tryz.func308.trans (congrArg some (by kernel_rfl))⟩
 t0:=Tryz.underlying0
 a0:=Tryz.isAgg0
 z0:=Tryz.sizeOf0
 v0:=Tryz.zeroValue0
 t3:=Tryz.underlying3
 a3:=Tryz.isAgg3
 z3:=Tryz.sizeOf3
 v3:=Tryz.zeroValue3
 t4:=Tryz.underlying4
 a4:=Tryz.isAgg4
 z4:=Tryz.sizeOf4
 v4:=Tryz.zeroValue4
 t5:=Tryz.underlying5
 a5:=Tryz.isAgg5
 z5:=Tryz.sizeOf5
 v5:=Tryz.zeroValue5
 t9:=Tryz.underlying9
 a9:=Tryz.isAgg9
 z9:=Tryz.sizeOf9
 v9:=Tryz.zeroValue9
 t22:=Tryz.underlying22
 a22:=Tryz.isAgg22
 z22:=Tryz.sizeOf22
 v22:=Tryz.zeroValue22
 t23:=Tryz.underlying22
 a23:=Tryz.isAgg22
 z23:=Tryz.sizeOf22
 v23:=Tryz.zeroValue22
 t25:=Tryz.underlying3
 a25:=Tryz.isAgg3
 z25:=Tryz.sizeOf3
 v25:=Tryz.zeroValue3
 t32:=Tryz.underlying39
 a32:=Tryz.isAgg39
 z32:=Tryz.sizeOf39
 v32:=Tryz.zeroValue39
 t35:=Tryz.underlying325
 a35:=Tryz.isAgg325
 z35:=Tryz.sizeOf325
 v35:=Tryz.zeroValue325
 t36:=Tryz.underlying326
 a36:=Tryz.isAgg326
 z36:=Tryz.sizeOf326
 v36:=Tryz.zeroValue326
 t41:=Tryz.underlying268
 a41:=Tryz.isAgg268
 z41:=Tryz.sizeOf268
 v41:=Tryz.zeroValue268
 t44:=Tryz.underlying252
 a44:=Tryz.isAgg252
 z44:=Tryz.sizeOf252
 v44:=Tryz.zeroValue252
 t46:=Tryz.underlying168
 a46:=Tryz.isAgg168
 z46:=Tryz.sizeOf168
 v46:=Tryz.zeroValue168
 t53:=Tryz.underlying354
 a53:=Tryz.isAgg354
 z53:=Tryz.sizeOf354
 v53:=Tryz.zeroValue354
 t57:=Tryz.underlying137
 a57:=Tryz.isAgg137
 z57:=Tryz.sizeOf137
 v57:=Tryz.zeroValue137
 t63:=Tryz.underlying374
 a63:=Tryz.isAgg374
 z63:=Tryz.sizeOf374
 v63:=Tryz.zeroValue374
 t64:=Tryz.underlying139
 a64:=Tryz.isAgg139
 z64:=Tryz.sizeOf139
 v64:=Tryz.zeroValue139}
end Go.Proofs
set_option linter.unusedVariables false
set_option linter.unusedSimpArgs false
noncomputable section
namespace Go.Proofs
open Go.RowKit Go.Ev
set_option maxHeartbeats 2000000 in
set_option maxRecDepth 100000 in
theorem Tryz.sync_walk:SyncWalk Tryz.prog 153:=by
 intro pd od pL oL len cap pm clock C ty fr ms w c0 c1 c2 hm hL hfr hlen hne hkeys hinj hborn hclock
 go_enter Tryz.func153,Tryz.ntmps153
 go_wp2_with (first
  |(at_range;refine wpList_range_raw _ rfl _ 119 rfl 3 9 Tryz.underlying119 pm clock ms rfl hm hclock ?_;intro w0 hu hw0)
  |go_in)
 go_frame
 have hpd:pd<w.heap.size:=by
  rcases Nat.lt_or_ge pd w.heap.size with h|h
  ·exact h
  ·simp[World.cell?,Array.getElem?_eq_none h]at c0
 have hpm:pm<w.heap.size:=(Array.getElem?_eq_some_iff.1 hm).1
 have hpL:pL<w.heap.size:=(Array.getElem?_eq_some_iff.1 hL).1
 have hmL:pm≠pL:=λe=>by rw[e,hL]at hm;cases hm
 go_loopw [3] (λ_ wr=>∃seen C',SyncAt pL oL pm w.heap.size C ty fr ms clock w wr seen C') (λ_ wr=>toCome ms w.heap.size wr)
 case atStart=>exact⟨#[],C,SyncAt.start hu hw0 hL⟩
 case round=>
  obtain⟨seen,C',hS⟩:=hrel
  go_wp2_with (first
   |(at_next;refine wpList_next_raw _ rfl _ rfl w.heap.size pm clock ms seen (λi:Nat=>.int .i64 i) Value.string (λe he=>by obtain⟨i,s,h1,_,h2⟩:=hkeys e he;exact⟨i,s,h1,h2⟩) hborn rfl hS.run (by omega) ?_ ?_)
   |go_in)
  ·intro h0
   have d1:wr.cell? ⟨pd,od+1,none⟩=some (.map (some pm)):=by
    unfold World.cell? at c1⊢;rw[hS.block pd hpd hne];exact c1
   obtain⟨since,k0,q1,q2,_⟩:=hS.run
   have hclr:∀ty,(Builtin.clear_ #[119] ty #[.map (some pm)]).run Tryz.prog wr=.ok (.tuple #[]) (ChangeMaps.setBlock wr pm (.map #[] clock)):=by
    intro ty
    simp only[Builtin.clear_,List.getElem?_toArray,List.getElem?_cons_zero,Sem.run_bind,run_underlying Tryz.underlying119,Result.andThen_ok,Go.MapKept.run_getObj_map q2,Sem.run_pure,Go.MapKept.run_setObj_map _ q2]
    rfl
   go_wp2
   go_ret
   exact⟨rfl,wr,seen,C',hS,by rw[h0];rfl,rfl⟩
  ·intro e x y w1 he hx hy hu1 hb1 hen
   have he:e∈(leftOf ms seen).toList:=by simpa using he
   obtain⟨i,s,hk1,hk2,hk3⟩:=hkeys e (left_mem.1 he).1
   have hxi:x=i:=by rw[hx]at hk1;injection hk1 with _ h;omega
   subst hxi
   have hL1:w1.heap[pL]?=some (.cells C' ty fr):=(hb1.block pL (by omega)).trans hS.L
   have d0:w1.cell? ⟨pd,od,none⟩=some (.slice (some ⟨pL,oL,none⟩) len cap):=by
    unfold World.cell? at c0⊢;rw[hb1.block pd (by omega),hS.block pd hpd hne];exact c0
   obtain⟨old,hold⟩:∃old,C'[oL+x]?=some old:=⟨_,Array.getElem?_eq_getElem (by rw[hS.size];omega)⟩
   have d1:w1.cell? ⟨pL,oL+x,none⟩=some old:=by rw[Lib.cell_of_heap hL1];exact hold
   have f1:w1.frozen? ⟨pL,oL+x,none⟩=false:=by
    simp only[World.frozen?,hL1]
    exact hfr.no (by omega)
   go_wp2
   exact hS.step hpL hmL he hx hy hu1 hb1 hlen hk2 hinj hborn
set_option maxHeartbeats 1000000 in
set_option maxRecDepth 100000 in
theorem Tryz.sync_fused:SyncFused Tryz.prog 153:=by
 intro pd od a w c2
 go_enter Tryz.func153,Tryz.ntmps153
 go_wp2
 go_ret
 exact⟨rfl,rfl⟩
set_option maxHeartbeats 1000000 in
set_option maxRecDepth 100000 in
theorem Tryz.hash_walk:HashWalk Tryz.prog 152:=by
 intro s w hs
 go_enter Tryz.func152,Tryz.ntmps152
 go_wp2
 go_loop [3,7] (λx i=>∃k:Nat,k≤s.size∧i=.int .i64 k∧x=.int .u64 (Int.ofNat (hashL (s.data.toList.take k) 14695981039346656037))) (λ_ i=>s.size-(intOf i).toNat)
 case atStart=>exact⟨0,Nat.zero_le _,rfl,rfl⟩
 case round=>
  obtain⟨k,hk,rfl,rfl⟩:=hrel
  have hx:=hashL_lt (s.data.toList.take k) (x:=14695981039346656037) (by decide)
  go_wp2
  ·have h:k<s.size:=by assumption
   go_round
   case rel=>exact⟨k+1,h,by go_num,by rw[hash_take h,←hash_round hx (s[k]).toNat_lt]⟩
   case measure=>simp[intOf];omega
  ·have h:¬k<s.size:=by omega
   go_ret
   exact⟨by rw[hash_all hk h];rfl,rfl⟩
open Go.Maps
end Go.Proofs
set_option linter.unusedVariables false
set_option linter.unusedSimpArgs false
noncomputable section
set_option maxRecDepth 100000
namespace Go.Proofs
open Go.RowKit Go.Ev Go.Shelf
attribute [local go_sem] Oper.semAt_some
end Go.Proofs
set_option linter.unusedVariables false
set_option linter.unusedSimpArgs false
noncomputable section
set_option maxRecDepth 1000000
namespace Go.Proofs.YticddijkkbcdmaaGreat.Ev
open Go.Ev Go.Proofs
theorem mixed:Tryz.prog.follows .mixedOrders=true:=by kernel_rfl
section
variable (m:Nat→Nat) (val:Nat→Int)
theorem c106:ContractOk (TT m) Tryz.prog val 106 (srtK 166 true 3):=by
 have h:=srtK_ok (T:=TT m) (val:=val) zz_not Tryz.lSorted Tryz.lKeys1 Tryz.lSort rfl true 3
 rw[show Tryz.lSorted_ren.f 6=106 from rfl,show Tryz.lKeys1_ren.f 10=166 from rfl]at h
 exact h
theorem c107:ContractOk (TT m) Tryz.prog val 107 (mkK 166):=by
 have h:=mkK_ok (T:=TT m) (val:=val) zz_not Tryz.lKeys
 rw[show Tryz.lKeys_ren.f 7=107 from rfl,show Tryz.lKeys_ren.f 10=166 from rfl]at h
 exact h
theorem c152:ContractOk (TT m) Tryz.prog val 152 hsK:=by
 exact hsK_ok zz_not (by kernel_rfl) Tryz.hash_walk
theorem c153:ContractOk (TT m) Tryz.prog val 153 syK:=by
 exact syK_ok zz_not (by kernel_rfl) Tryz.sync_walk Tryz.sync_fused
theorem c168:ContractOk (TT m) Tryz.prog val 168 (wsK 239 5):=by
 have h:=wsK_ok (T:=TT m) (val:=val) zz_not Tryz.lWrite Tryz.lWrite_x
 rw[show Tryz.lWrite_ren.f 166=168 from rfl,show Tryz.lWrite_ren.t 72=239 from rfl,show Tryz.lWrite_ren.t 5=5 from rfl]at h
 exact h
theorem c171:ContractOk (TT m) Tryz.prog val 171 (bsK 239 5):=by
 have h:=bsK_ok (T:=TT m) (val:=val) zz_not Tryz.lString Tryz.lString_x
 rw[show Tryz.lString_ren.f 169=171 from rfl,show Tryz.lString_ren.t 72=239 from rfl,show Tryz.lString_ren.t 5=5 from rfl]at h
 exact h
end
def KT0:KTree:=(.node 152 hsK (.node 106 (srtK 166 true 3) .nil (.node 107 (mkK 166) .nil .nil)) (.node 168 (wsK 239 5) (.node 153 syK .nil .nil) (.node 171 (bsK 239 5) .nil .nil)))
theorem kt0Ok (m:Nat→Nat) (val:Nat→Int):KT0.Ok (TT m) Tryz.prog val:=⟨c152 m val,⟨c106 m val,trivial,⟨c107 m val,trivial,trivial⟩⟩,⟨c168 m val,⟨c153 m val,trivial,trivial⟩,⟨c171 m val,trivial,trivial⟩⟩⟩
end Go.Proofs.YticddijkkbcdmaaGreat.Ev
set_option linter.unusedVariables false
set_option linter.unusedSimpArgs false
noncomputable section
set_option maxRecDepth 1000000
namespace Go.Proofs.YticddijkkbcdmaaGreat.Ev
open Go.Ev Go.Proofs
theorem awakeRunsW:hcall (noOrc zz) KT0.find FT.find 60 4 [] (λ_=>none) [] 0 isR []=true:=by kernel_rfl
theorem awakeW:SaysTrue Tryz.prog 4:=λw=>lawH (T:=TT λ_=>0) (val:=λ_=>0) zz_not isR_elim (noOrc_ok zz_not _) mixed (KTree.ok (kt0Ok _ _)) ftOk ⟨[],(λj p h=>by simp at h),awakeRunsW⟩ w [] trivial
end Go.Proofs.YticddijkkbcdmaaGreat.Ev
set_option linter.unusedVariables false
set_option linter.unusedSimpArgs false
noncomputable section
namespace Go.Ev
open Go.Shelf Go.Proofs Go.RowKit
def SV.same:SV→SV→Bool
 |.un,.un=>true
 |.int k n,.int k' n'=>IntKind.eqb k k'&&decide (n=n')
 |.bool b,.bool b'=>decide (b=b')
 |.str l n,.str l' n'=>Nat.beq l l'&&Nat.beq n n'
 |.nsl,.nsl=>true
 |.npt,.npt=>true
 |.nfn,.nfn=>true
 |.optr a b,.optr a' b'=>Nat.beq a a'&&Nat.beq b b'
 |.osl a b c d e,.osl a' b' c' d' e'=>Nat.beq a a'&&Nat.beq b b'&&Nat.beq c c'&&Nat.beq d d'&&Nat.beq e e'
 |.nmp,.nmp=>true
 |.mp a,.mp a'=>Nat.beq a a'
 |.nif,.nif=>true
 |.mk a,.mk a'=>Nat.beq a a'
 |_,_=>false
theorem SV.same_eq {a b:SV} (h:a.same b=true):a=b:=by
 cases a<;>cases b<;>first|rfl|(cases h;done)|skip
 all_goals simp only[SV.same,Bool.and_eq_true,decide_eq_true_eq]at h
 ·obtain⟨h1,h2⟩:=h;rw[eqb_eq h1,h2]
 ·rw[h]
 ·obtain⟨h1,h2⟩:=h;rw[Nat.eq_of_beq_eq_true h1,Nat.eq_of_beq_eq_true h2]
 ·obtain⟨h1,h2⟩:=h;rw[Nat.eq_of_beq_eq_true h1,Nat.eq_of_beq_eq_true h2]
 ·obtain⟨⟨⟨⟨h1,h2⟩,h3⟩,h4⟩,h5⟩:=h;rw[Nat.eq_of_beq_eq_true h1,Nat.eq_of_beq_eq_true h2,Nat.eq_of_beq_eq_true h3,Nat.eq_of_beq_eq_true h4,Nat.eq_of_beq_eq_true h5]
 ·rw[Nat.eq_of_beq_eq_true h]
 ·rw[Nat.eq_of_beq_eq_true h]
def SV.isUn:SV→Bool
 |.un=>true
 |_=>false
def sames:List SV→List SV→Bool
 |[],[]=>true
 |a::x,b::y=>(b.isUn||a.same b)&&sames x y
 |_,_=>false
def Weak (a b:SV):Prop:=b=.un∨a=b
theorem sames_all:∀{x y:List SV},sames x y=true→All2 Weak x y
 |[],[],_=>trivial
 |[],_::_,h=>by cases h
 |_::_,[],h=>by cases h
 |a::x,b::y,h=>by
  simp only[sames,Bool.and_eq_true,Bool.or_eq_true]at h
  refine⟨?_,sames_all h.2⟩
  rcases h.1 with h1|h1
  ·cases b<;>first|exact .inl rfl|cases h1
  ·exact .inr (SV.same_eq h1)
def exacts:List SV→List SV→Bool
 |[],[]=>true
 |a::x,b::y=>a.same b&&exacts x y
 |_,_=>false
theorem exacts_eq:∀{x y:List SV},exacts x y=true→x=y
 |[],[],_=>rfl
 |[],_::_,h=>by cases h
 |_::_,[],h=>by cases h
 |a::x,b::y,h=>by
  simp only[exacts,Bool.and_eq_true]at h
  rw[SV.same_eq h.1,exacts_eq h.2]
def CV.same:CV→CV→Bool
 |.one a,.one b=>a.same b
 |.ag a,.ag b=>exacts a b
 |_,_=>false
theorem CV.same_eq {a b:CV} (h:a.same b=true):a=b:=by
 cases a<;>cases b<;>first|(cases h;done)|skip
 ·rw[SV.same_eq h]
 ·rw[exacts_eq h]
def cexacts:List CV→List CV→Bool
 |[],[]=>true
 |a::x,b::y=>a.same b&&cexacts x y
 |_,_=>false
theorem cexacts_eq:∀{x y:List CV},cexacts x y=true→x=y
 |[],[],_=>rfl
 |[],_::_,h=>by cases h
 |_::_,[],h=>by cases h
 |a::x,b::y,h=>by
  simp only[cexacts,Bool.and_eq_true]at h
  rw[CV.same_eq h.1,cexacts_eq h.2]
def AV.same:AV→AV→Bool
 |.one a,.one b=>a.same b
 |.ag a,.ag b=>exacts a b
 |.tp a,.tp b=>cexacts a b
 |_,_=>false
theorem AV.same_eq {a b:AV} (h:a.same b=true):a=b:=by
 cases a<;>cases b<;>first|(cases h;done)|skip
 ·rw[SV.same_eq h]
 ·rw[exacts_eq h]
 ·rw[cexacts_eq h]
def hasK (mu:St):St→Bool
 |[]=>true
 |p::r=>(match look mu p.1 with|some c=>bif mkd c then exacts c p.2 else sames c p.2|none=>false)&&hasK mu r
def isV (exp:AV) (l:St) (v:AV) (mu:St) (_:Nat):RR:=λ_=>v.same exp&&hasK mu l
theorem hasK_all {mu:St}:∀{l:St},hasK mu l=true→∀id c,look l id=some c→∃c',look mu id=some c'∧(c'=c∨mkd c'=false∧All2 Weak c' c)
 |[],_,id,c,h=>by cases h
 |p::r,h,id,c,hl=>by
  simp only[hasK,Bool.and_eq_true]at h
  have hl':cond (Nat.beq p.1 id) (some p.2) (look r id)=some c:=hl
  cases e:Nat.beq p.1 id with
  |false=>rw[e]at hl';exact hasK_all h.2 id c hl'
  |true=>
   rw[e]at hl'
   have e1:=Nat.eq_of_beq_eq_true e
   cases hl'
   have h1:=h.1
   rw[e1]at h1
   cases e2:look mu id with
   |none=>rw[e2]at h1;cases h1
   |some c'=>
    rw[e2]at h1
    simp only at h1
    refine⟨c',rfl,?_⟩
    cases e3:mkd c' with
    |true=>rw[e3]at h1;exact .inl (exacts_eq h1)
    |false=>rw[e3]at h1;exact .inr ⟨rfl,sames_all h1⟩
theorem isV_elim {m:Nat→Nat} {exp v:AV} {l mu:St} {n:Nat} (h:TT m (isV exp l v mu n)):v=exp∧hasK mu l=true:=by
 obtain⟨pc,_,h⟩:=h
 simp only[isV,Bool.and_eq_true]at h
 exact⟨AV.same_eq h.1,h.2⟩
section
variable {val:Nat→Int} {ρ ρ':Rho} {fz:Fz} {mu l:St} {n n':Nat} {w w':World}
theorem VR.weak {a b:SV} {v:Value} (h:Weak a b) (hv:VR val ρ w a v):VR val ρ w b v:=by
 rcases h with rfl|rfl
 ·trivial
 ·exact hv
theorem all2_weak:∀{x y:List SV},All2 Weak x y→x.length=y.length∧∀(i:Nat) (b:SV),y[i]?=some b→∃a,x[i]?=some a∧Weak a b
 |[],[],_=>⟨rfl,λi b h=>by simp at h⟩
 |[],_::_,h=>h.elim
 |_::_,[],h=>h.elim
 |a::x,b::y,h=>by
  obtain⟨h1,h2⟩:=all2_weak h.2
  refine⟨by simp[h1],λi c hc=>?_⟩
  cases i with
  |zero=>simp at hc;subst hc;exact⟨a,rfl,h.1⟩
  |succ j=>simpa using h2 j c (by simpa using hc)
theorem OwnG.weak {id:Nat} {c c':List SV} (h:c'=c∨mkd c'=false∧All2 Weak c' c) (ho:OwnG val ρ w id c'):OwnG val ρ w id c:=by
 rcases h with rfl|⟨hm,h⟩
 ·exact ho
 ·obtain⟨p,C,ty,fr,h1,h2,h3,h4,h5⟩:=ho.plain hm
  obtain⟨g1,g2⟩:=all2_weak h
  exact .inl ⟨p,C,ty,fr,h1,h2,h3,by rw[←g1];exact h4,λi s hi=>let⟨a,ha,hw⟩:=g2 i s hi;let⟨v,e,r⟩:=h5 i a ha;⟨v,e,r.weak hw⟩⟩
theorem Rel.weak (hr:Rel val ρ fz mu w) (h:∀id c,look l id=some c→∃c',look mu id=some c'∧(c'=c∨mkd c'=false∧All2 Weak c' c)):Rel val ρ fz l w:=by
 have hs:∀{id},(look l id).isSome→(look mu id).isSome:=fun{id} hi=>by
  obtain⟨c,hc⟩:=Option.isSome_iff_exists.1 hi
  obtain⟨c',h1,_⟩:=h id c hc
  rw[h1];rfl
 exact⟨hr.rf,λid c hc=>let⟨c',h1,h2⟩:=h id c hc;(hr.rm id c' h1).weak h2,λid c hc=>let⟨c',h1,_⟩:=h id c hc;hr.dm id c' h1,λa b p q ha hb=>hr.dj a b p q (hs ha) (hb.imp hs λx=>x)⟩
end
theorem callV {m:Nat→Nat} {P:Program} {val:Nat→Int} {orc:Orc RR} {K:Nat→Option (Contract RR)} {F:HTree} {depth f:Nat} {args:List AV} {fz:Fz} {mu l:St} {n:Nat} {exp:AV} (hk:OrcOk (TT m) val orc) (hmx:P.follows .mixedOrders=true)
 (hK:∀f c,K f=some c→ContractOk (TT m) P val f c) (hF:F.Ok P) (h:TT m (hcall orc K F.find depth f args fz mu n (isV exp l))) (ρ:Rho) (w:World) (hr:Rel val ρ fz mu w) (xs:List Value) (hx:All2 (AVR val ρ w) args xs) (hf:∀id,n≤id→ρ id=none):
 Calls P f xs.toArray w λe w'=>∃x ρ',e=.returned x∧(∃n',Ext ρ ρ' n n')∧Rel val ρ' fz l w'∧AVR val ρ' w' exp x∧Fr ρ mu w w'∧∀id p,(look l id).isSome→ρ' id=some p→w.heap.size≤p.1∨∃id0 p0,(look mu id0).isSome∧ρ id0=some p0∧p0.1=p.1:=by
 obtain⟨v,mu',n',h1,_,h2,h3⟩:=hcall_sound (T:=TT m) zz_not hk hmx hK (HTree.ok hF) depth f args fz mu n (isV exp l) h
 obtain⟨rfl,hh⟩:=isV_elim h1
 have ha:=hasK_all hh
 refine(h3 ρ w xs hr hx (λid h1 _=>hf id h1)).mono λe w' ⟨x,e1,ρ',p1,p2,p3,p4,p5,p6⟩=>?_
 refine⟨x,ρ',e1,⟨n',p1⟩,p2.weak ha,p3,p4,λid p hl hp=>p5 id p ?_ hp⟩
 obtain⟨c,hc⟩:=Option.isSome_iff_exists.1 hl
 obtain⟨c',h1,_⟩:=ha id c hc
 rw[h1];rfl
def SV.plain:SV→Value
 |.int k n=>.int k n
 |.bool b=>.bool b
 |.str l n=>.string (sOf l n)
 |.nsl=>.slice none 0 0
 |.npt=>.pointer none
 |.nmp=>.map none
 |_=>.nilIface
def SV.isPlain:SV→Bool
 |.int _ _=>true
 |.bool _=>true
 |.str _ _=>true
 |.nsl=>true
 |.npt=>true
 |.nmp=>true
 |_=>false
theorem VR.plain {val:Nat→Int} {ρ:Rho} {w:World} {s:SV} {v:Value} (h:VR val ρ w s v) (hp:s.isPlain=true):v=s.plain:=by
 cases s<;>first|(cases hp;done)|exact h|exact h.2
theorem VRs.plain {val:Nat→Int} {ρ:Rho} {w:World}:∀{l:List SV} {vs:List Value},All2 (VR val ρ w) l vs→l.all SV.isPlain=true→vs=l.map SV.plain
 |[],[],_,_=>rfl
 |[],_::_,h,_=>h.elim
 |_::_,[],h,_=>h.elim
 |a::x,b::y,h,hp=>by
  simp only[List.all_cons,Bool.and_eq_true]at hp
  rw[List.map_cons,←VRs.plain h.2 hp.2,←VR.plain h.1 hp.1]
end Go.Ev
set_option linter.unusedVariables false
set_option linter.unusedSimpArgs false
noncomputable section
set_option maxRecDepth 1000000
namespace Go.Proofs.YticddijkkbcdmaaGreat.Ev
open Go Go.Ev Go.Proofs Go.RowKit Go.Rm Go.Ry
theorem below_of_fr {w w':World} (h:Fr (λ_=>none) [] w w'):Below w.heap.size w w':=⟨h.os,h.tape,h.output,h.size,λk hk=>h.keep k hk λid p hl=>by cases hl⟩
def isVn (exp:AV) (l:St) (N:Nat) (v:AV) (mu:St) (n:Nat):RR:=λpc=>isV exp l v mu n pc&&Nat.ble n N
theorem callVn {m:Nat→Nat} {P:Program} {val:Nat→Int} {orc:Orc RR} {K:Nat→Option (Contract RR)} {F:HTree} {depth f:Nat} {args:List AV} {fz:Fz} {mu l:St} {n N:Nat} {exp:AV} (hk:OrcOk (TT m) val orc) (hmx:P.follows .mixedOrders=true)
 (hK:∀f c,K f=some c→ContractOk (TT m) P val f c) (hF:F.Ok P) (h:TT m (hcall orc K F.find depth f args fz mu n (isVn exp l N))) (ρ:Rho) (w:World) (hr:Rel val ρ fz mu w) (xs:List Value) (hx:All2 (AVR val ρ w) args xs) (hf:∀id,n≤id→ρ id=none):
 Calls P f xs.toArray w λe w'=>∃x ρ',e=.returned x∧(∃n',n'≤N∧Ext ρ ρ' n n')∧Rel val ρ' fz l w'∧AVR val ρ' w' exp x∧Fr ρ mu w w'∧∀id p,(Go.Ev.look l id).isSome→ρ' id=some p→w.heap.size≤p.1∨∃id0 p0,(Go.Ev.look mu id0).isSome∧ρ id0=some p0∧p0.1=p.1:=by
 obtain⟨v,mu',n',h1,_,h2,h3⟩:=hcall_sound (T:=TT m) zz_not hk hmx hK (HTree.ok hF) depth f args fz mu n (isVn exp l N) h
 have h1':TT m (isV exp l v mu' n')∧n'≤N:=by
  obtain⟨pc,ok,h⟩:=h1
  simp only[isVn,Bool.and_eq_true]at h
  exact⟨⟨pc,ok,h.1⟩,Nat.le_of_ble_eq_true h.2⟩
 obtain⟨rfl,hh⟩:=isV_elim h1'.1
 have ha:=hasK_all hh
 refine(h3 ρ w xs hr hx (λid h1 _=>hf id h1)).mono λe w' ⟨x,e1,ρ',p1,p2,p3,p4,p5,p6⟩=>?_
 refine⟨x,ρ',e1,⟨n',h1'.2,p1⟩,p2.weak ha,p3,p4,λid p hl hp=>p5 id p ?_ hp⟩
 obtain⟨c,hc⟩:=Option.isSome_iff_exists.1 hl
 obtain⟨c',h1,_⟩:=ha id c hc
 rw[h1];rfl
end Go.Proofs.YticddijkkbcdmaaGreat.Ev
set_option linter.unusedVariables false
set_option linter.unusedSimpArgs false
noncomputable section
namespace Go.Ev
open Go.Shelf Go.Proofs Go.RowKit
def SV.among (keep:Nat→Bool):SV→Bool
 |.optr id _=>keep id
 |.osl id _ _ _ _=>keep id
 |.mp id=>keep id
 |.fn _ _=>false
 |_=>true
section
variable {val:Nat→Int} {ρ ρ':Rho} {keep:Nat→Bool} {w w':World}
theorem VR.turn {s:SV} {v:Value} (h:VR val ρ w s v) (hk:s.among keep=true) (ho:∀id p,keep id=true→ρ id=some p→ρ' id=some p) (hs:∀id p,keep id=true→ρ id=some p→bsize w p.1≤bsize w' p.1):VR val ρ' w' s v:=by
 cases s with
 |optr id off=>obtain⟨p,h1,h2⟩:=h;exact⟨p,ho id p hk h1,h2⟩
 |osl id off len cap s=>obtain⟨p,c,h1,h2,h3,h4,h5,h6⟩:=h;exact⟨p,c,ho id p hk h1,h2,h3,h4,Nat.le_trans h5 (hs id p hk h1),h6⟩
 |fn f caps=>cases hk
 |mp id=>obtain⟨p,h1,h2⟩:=h;exact⟨p,ho id p hk h1,h2⟩
 |_=>exact h
theorem all_among {cs:List SV} (h:cs.all (SV.among keep)=true) {i:Nat} {s:SV} (hi:cs[i]?=some s):s.among keep=true:=
 List.all_eq_true.1 h s (List.mem_of_getElem? hi)
theorem Own.turn {id:Nat} {cs:List SV} (h:Own val ρ w id cs) (hid:keep id=true) (hc:cs.all (SV.among keep)=true) (ho:∀id p,keep id=true→ρ id=some p→ρ' id=some p) (hk:∀id p,keep id=true→ρ id=some p→w'.heap[p.1]?=w.heap[p.1]?):Own val ρ' w' id cs:=by
 obtain⟨p,C,ty,fr,h1,h2,h3,h4,h5⟩:=h
 exact⟨p,C,ty,fr,ho id p hid h1,(hk id p hid h1).trans h2,h3,h4,λi s hi=>let⟨v,e,r⟩:=h5 i s hi;⟨v,e,r.turn (all_among hc hi) ho λid p hi hp=>by unfold bsize;rw[hk id p hi hp];exact Nat.le_refl _⟩⟩
theorem OwnR.turn {id:Nat} {cs:List SV} (h:OwnR val ρ w id cs) (hid:keep id=true) (hc:cs.all (SV.among keep)=true) (ho:∀id p,keep id=true→ρ id=some p→ρ' id=some p) (hk:∀id p,keep id=true→ρ id=some p→w'.heap[p.1]?=w.heap[p.1]?):OwnR val ρ' w' id cs:=by
 obtain⟨p,C,ty,fr,h1,h2,h4,h5⟩:=h
 exact⟨p,C,ty,fr,ho id p hid h1,(hk id p hid h1).trans h2,h4,λi s hi=>let⟨v,e,r⟩:=h5 i s hi;⟨v,e,r.turn (all_among hc hi) ho λid p hi hp=>by unfold bsize;rw[hk id p hi hp];exact Nat.le_refl _⟩⟩
theorem map_turn {id k:Nat} (h:OwnS val ρ w id [.mk k]) (hid:keep id=true) (ho:∀id p,keep id=true→ρ id=some p→ρ' id=some p) (hk:∀id p,keep id=true→ρ id=some p→w'.heap[p.1]?=w.heap[p.1]?):OwnS val ρ' w' id [.mk k]:=by
 generalize hcs:[SV.mk k]=cs at h
 cases h with
 |map p agg v es ms clock hp hw hv he hb hc=>
  have hes:es=[]:=by
   cases es with
   |nil=>rfl
   |cons e r=>simp[flatE]at hcs
  subst hes
  have hm:ms.toList=[]:=by
   cases hq:ms.toList with
   |nil=>rfl
   |cons a b=>rw[hq]at he;exact he.elim
  obtain rfl:k=mtag agg v:=SV.mk.inj (List.cons.inj hcs).1
  exact .map p agg v [] ms clock (ho _ _ hid hp) ((hk _ _ hid hp).trans hw) hv (by rw[hm];trivial) hb hc
 |text=>cases hcs
 |bld=>cases hcs
 |box=>cases hcs
 |glob=>cases hcs
theorem OwnF.turn {id:Nat} {cs:List SV} (h:OwnF val ρ w id cs) (hid:keep id=true) (hc:cs.all (SV.among keep)=true) (hm:mkd cs=false∨∃k,cs=[.mk k]) (ho:∀id p,keep id=true→ρ id=some p→ρ' id=some p) (hk:∀id p,keep id=true→ρ id=some p→w'.heap[p.1]?=w.heap[p.1]?):OwnF val ρ' w' id cs:=by
 rcases hm with hm|⟨k,rfl⟩
 ·exact .inl ((h.plain hm).turn hid hc ho hk)
 ·exact .inr (map_turn (h.other rfl) hid ho hk)
end
end Go.Ev
