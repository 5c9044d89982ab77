/-
  The walk of query.Last, of slices.Backward.
-/
import Derived.Test.YtkmopacddblfeaaGreatEwM8
import Derived.Test.YtkmopacddblfeaaGreatRows
import Derived.Shelf.Abstract
import Derived.WalkKit
import Derived.Scope
import Derived.OwnWalkIn
import Derived.TacticsInMore
import Derived.LoopNIn
import Derived.LoopIn
set_option linter.unusedVariables false
set_option linter.unusedSimpArgs false
noncomputable section
set_option maxRecDepth 100000
namespace Go.Proofs
open Go.RowKit Go.Ev Go.Shelf
attribute [local go_sem] Oper.semAt_some
set_option maxRecDepth 100000 in
set_option maxHeartbeats 4000000 in
theorem Tryz.bs1_in (F : Fence) (n : Nat) (h7 : F.fn 317) (hro : F.round = none) (hn : 1 ≤ n) (l Bs n₀ b off cap len : Nat) (zs : Fin len → Slc) (hlen : len ≤ 1000000) (hb : b < n₀) (J Jx : List (Fin len) → World → Prop)
 (hY : ∀ pre x W,J pre W → pre.length < len → YieldAt F (n - 1) Tryz.prog l #[.int .i64 (x.1 : Int),slcV (zs x)] W λe W' =>
  (e = .returned (.bool true) ∧ J (pre ++ [x]) W' ∧ Below n₀ W W') ∨ (e = .returned (.bool false) ∧ Jx (pre ++ [x]) W'))
 (W : World) (hBs : W.cell? ⟨Bs,0,none⟩ = some (.slice (some ⟨b,off,none⟩) len cap)) (hBn : Bs < n₀) (hc : ∀ j : Fin len,W.cell? ⟨b,off + j.1,none⟩ = some (slcV (zs j))) (h0 : J [] W) :
 CallsIn F n Tryz.prog 317 #[.func (.yield l) #[] #[],.pointer (some ⟨Bs,0,none⟩)] W λe W'=>(∃ v,e = .returned v) ∧
  ((∃ ys,ys = revF len len ∧ J ys W') ∨ (∃ pre,(∃ k,k ≤ len ∧ pre = revF len k) ∧ Jx pre W')):=by
 refine callsIn_of_wp Tryz.func317 rfl h7 ?_ hro
 simp only [Tryz.ntmps317,List.size_toArray,List.length_cons,List.length_nil,Nat.reduceAdd,Nat.reduceSub,Array.replicate_succ,Array.replicate_zero,List.push_toArray,List.append_toArray,List.nil_append,List.cons_append]
 gi_wp2
 gi_loopw [3] (λi wr=>∃ k m : Nat,m + k = len ∧ i = .int .i64 ((m : Int) - 1) ∧ J (revF len k) wr ∧ Below n₀ W wr)
  (λi _=>(intOf i + 1).toNat)
 case atStart=>exact ⟨0,len,rfl,by simp,h0,Below.refl _ _⟩
 case round =>
  obtain ⟨k,m,hk,rfl,hJs,hnx⟩:=hrel
  have hBsx:=(hnx.cell (p:=⟨Bs,0,none⟩) hBn).trans hBs
  cases m with
  | zero =>
   obtain rfl : k = len:=by omega
   gi_wp2
   go_end0
   exact ⟨⟨_,rfl⟩,.inl ⟨_,rfl,hJs⟩⟩
  | succ m =>
  rw [show ((m + 1 : Nat) : Int) - 1 = (m : Int) by omega]
  have hmlt : m < len:=by omega
  have hbk : revF len (k + 1) = revF len k ++ [⟨m,hmlt⟩]:=revF_succ (by omega)
  obtain ⟨fn,tmps,assign,body,hy,hR⟩:=hY _ ⟨m,hmlt⟩ wr hJs (by rw [revF_length (by omega)]; omega)
  have hcx : wr.cell? ⟨b,off + m,none⟩ = some (slcV (zs ⟨m,hmlt⟩)):=(hnx.cell (p:=⟨b,off + m,none⟩) hb).trans (hc ⟨m,hmlt⟩)
  obtain ⟨⟨z1,z2,z3⟩,hz⟩ : ∃ z,zs ⟨m,hmlt⟩ = z:=⟨_,rfl⟩
  rw [hz] at hcx hy
  dsimp only [slcV] at hcx hy
  gi_wp2
  refine hR.mono ?_
  rintro e W3 (⟨rfl,hJ3,hk3⟩ | ⟨rfl,hJx3⟩)
  ·gi_wp2
   go_roundw
   case rel=>exact ⟨k + 1,m,by omega,by simp,by rw [hbk]; exact hJ3,hnx.trans hk3⟩
   case measure=>simp [intOf]
  ·gi_wp2
   refine bodyPost_ret (results_none rfl _ _ _) rfl ?_
   exact ⟨⟨_,rfl⟩,.inr ⟨_,⟨k + 1,by omega,hbk.symm⟩,hJx3⟩⟩
set_option maxRecDepth 100000 in
set_option maxHeartbeats 1000000 in
theorem Tryz.bs1_nil_in (F : Fence) (n : Nat) (h7 : F.fn 317) (hro : F.round = none) (l Bs : Nat) (ao : Option Addr) (cap : Nat) (J : List (Fin 0) → World → Prop) (W : World) (hBs : W.cell? ⟨Bs,0,none⟩ = some (.slice ao 0 cap)) (h0 : J [] W) :
 CallsIn F n Tryz.prog 317 #[.func (.yield l) #[] #[],.pointer (some ⟨Bs,0,none⟩)] W λe W'=>(∃ v,e = .returned v) ∧ J [] W':=by
 refine callsIn_of_wp Tryz.func317 rfl h7 ?_ hro
 simp only [Tryz.ntmps317,List.size_toArray,List.length_cons,List.length_nil,Nat.reduceAdd,Nat.reduceSub,Array.replicate_succ,Array.replicate_zero,List.push_toArray,List.append_toArray,List.nil_append,List.cons_append]
 gi_wp2
 gi_loopw [3] (λi wr=>i = .int .i64 (-1) ∧ J [] wr) (λ_ _=>0)
 case atStart=>exact ⟨rfl,h0⟩
 case round =>
  obtain ⟨rfl,hJs⟩:=hrel
  gi_wp2
  go_end0
  exact ⟨⟨_,rfl⟩,hJs⟩
set_option maxHeartbeats 1000000 in
theorem Tryz.bs_in (F : Fence) (n : Nat) (h5 : F.fn 302) (hro : F.round = none) (x : Slc) (w : World) :
 CallsIn F n Tryz.prog 302 #[slcV x] w λe w'=>e = .returned (.func (.func 317) #[] #[.pointer (some ⟨w.heap.size,0,none⟩)]) ∧ w' = w.alloc (.cells #[slcV x] 352):=by
 refine callsIn_of_wp Tryz.func302 rfl h5 ?_ hro
 obtain ⟨a,len,cap⟩:=x
 dsimp only [slcV]
 simp only [Tryz.ntmps302,List.size_toArray,List.length_cons,List.length_nil,Nat.reduceAdd,Nat.reduceSub,Array.replicate_succ,Array.replicate_zero,List.push_toArray,List.append_toArray,List.nil_append,List.cons_append]
 gi_wp2
 go_ret
 exact ⟨rfl,rfl⟩
theorem Tryz.bs_stops (F : Fence) (n : Nat) (h7 : F.fn 317) (hro : F.round = none) (hn : 1 ≤ n) (Bs n₀ : Nat) (x : Slc) (len : Nat) (zs : Fin len → Slc) (hlen : len ≤ 1000000) (w : World) (hBs : Bs < w.heap.size) (hn₀ : n₀ ≤ w.heap.size) (hBn : Bs < n₀)
 (hc : w.cell? ⟨Bs,0,none⟩ = some (slcV x)) (hI : SlcsV n₀ w x len zs) :
 SeqStopsK F n Tryz.prog 317 #[.pointer (some ⟨Bs,0,none⟩)] (λj : Fin len=>#[Value.int .i64 (j.1 : Int),slcV (zs j)]) (Below n₀) (λys=>ys = revF len len) (λpre=>∃ k,k ≤ len ∧ pre = revF len k) len w:=λl J Jx W hW _ _ hY h0=>by
 have hc':=(hW.cell (p:=⟨Bs,0,none⟩) hBs).trans hc
 obtain ⟨a,b,c⟩:=x
 obtain ⟨e,h⟩:=hI.below (hW.mono hn₀)
 have e : b = len:=e
 subst e
 rcases h with rfl | ⟨b',off,e1,hb,hcs⟩
 ·exact (Tryz.bs1_nil_in F n h7 hro l Bs a c J W hc' h0).mono λe W' ⟨he,hj⟩=>⟨he,.inl ⟨_,rfl,hj⟩⟩
 ·have e1 : a = some ⟨b',off,none⟩:=e1
  subst e1
  exact Tryz.bs1_in F n h7 hro hn l Bs n₀ b' off c b zs hlen hb J Jx hY W hc' hBn hcs h0
set_option maxRecDepth 100000 in
set_option maxHeartbeats 4000000 in
theorem Tryz.bp1_in (F : Fence) (n : Nat) (h7 : F.fn 318) (hro : F.round = none) (hn : 1 ≤ n) (l Bs n₀ b off cap len : Nat) (zs : Fin len → Pnt) (hlen : len ≤ 1000000) (hb : b < n₀) (J Jx : List (Fin len) → World → Prop)
 (hY : ∀ pre x W,J pre W → pre.length < len → YieldAt F (n - 1) Tryz.prog l #[.int .i64 (x.1 : Int),pntV (zs x)] W λe W' =>
  (e = .returned (.bool true) ∧ J (pre ++ [x]) W' ∧ Below n₀ W W') ∨ (e = .returned (.bool false) ∧ Jx (pre ++ [x]) W'))
 (W : World) (hBs : W.cell? ⟨Bs,0,none⟩ = some (.slice (some ⟨b,off,none⟩) len cap)) (hBn : Bs < n₀) (hc : ∀ j : Fin len,W.cell? ⟨b,off + j.1 * 3,none⟩ = some (.string (zs j).1) ∧ W.cell? ⟨b,off + j.1 * 3 + 1,none⟩ = some (.int .i64 (zs j).2.1) ∧ W.cell? ⟨b,off + j.1 * 3 + 2,none⟩ = some (.int .i64 (zs j).2.2)) (h0 : J [] W) :
 CallsIn F n Tryz.prog 318 #[.func (.yield l) #[] #[],.pointer (some ⟨Bs,0,none⟩)] W λe W'=>(∃ v,e = .returned v) ∧
  ((∃ ys,ys = revF len len ∧ J ys W') ∨ (∃ pre,(∃ k,k ≤ len ∧ pre = revF len k) ∧ Jx pre W')):=by
 refine callsIn_of_wp Tryz.func318 rfl h7 ?_ hro
 simp only [Tryz.ntmps318,List.size_toArray,List.length_cons,List.length_nil,Nat.reduceAdd,Nat.reduceSub,Array.replicate_succ,Array.replicate_zero,List.push_toArray,List.append_toArray,List.nil_append,List.cons_append]
 gi_wp2
 gi_loopw [3] (λi wr=>∃ k m : Nat,m + k = len ∧ i = .int .i64 ((m : Int) - 1) ∧ J (revF len k) wr ∧ Below n₀ W wr)
  (λi _=>(intOf i + 1).toNat)
 case atStart=>exact ⟨0,len,rfl,by simp,h0,Below.refl _ _⟩
 case round =>
  obtain ⟨k,m,hk,rfl,hJs,hnx⟩:=hrel
  have hBsx:=(hnx.cell (p:=⟨Bs,0,none⟩) hBn).trans hBs
  cases m with
  | zero =>
   obtain rfl : k = len:=by omega
   gi_wp2
   go_end0
   exact ⟨⟨_,rfl⟩,.inl ⟨_,rfl,hJs⟩⟩
  | succ m =>
  rw [show ((m + 1 : Nat) : Int) - 1 = (m : Int) by omega]
  have hmlt : m < len:=by omega
  have hbk : revF len (k + 1) = revF len k ++ [⟨m,hmlt⟩]:=revF_succ (by omega)
  obtain ⟨fn,tmps,assign,body,hy,hR⟩:=hY _ ⟨m,hmlt⟩ wr hJs (by rw [revF_length (by omega)]; omega)
  obtain ⟨hc0,hc1,hc2⟩:=hc ⟨m,hmlt⟩
  have hcx0 : wr.cell? ⟨b,off + m * 3,none⟩ = some (.string (zs ⟨m,hmlt⟩).1):=(hnx.cell (p:=⟨b,off + m * 3,none⟩) hb).trans hc0
  have hcx1 : wr.cell? ⟨b,off + m * 3 + 1,none⟩ = some (.int .i64 (zs ⟨m,hmlt⟩).2.1):=(hnx.cell (p:=⟨b,off + m * 3 + 1,none⟩) hb).trans hc1
  have hcx2 : wr.cell? ⟨b,off + m * 3 + 2,none⟩ = some (.int .i64 (zs ⟨m,hmlt⟩).2.2):=(hnx.cell (p:=⟨b,off + m * 3 + 2,none⟩) hb).trans hc2
  obtain ⟨⟨z1,z2,z3⟩,hz⟩ : ∃ z,zs ⟨m,hmlt⟩ = z:=⟨_,rfl⟩
  rw [hz] at hcx0 hcx1 hcx2 hy
  dsimp only [pntV] at hcx0 hcx1 hcx2 hy
  gi_wp2
  refine hR.mono ?_
  rintro e W3 (⟨rfl,hJ3,hk3⟩ | ⟨rfl,hJx3⟩)
  ·gi_wp2
   go_roundw
   case rel=>exact ⟨k + 1,m,by omega,by simp,by rw [hbk]; exact hJ3,hnx.trans hk3⟩
   case measure=>simp [intOf]
  ·gi_wp2
   refine bodyPost_ret (results_none rfl _ _ _) rfl ?_
   exact ⟨⟨_,rfl⟩,.inr ⟨_,⟨k + 1,by omega,hbk.symm⟩,hJx3⟩⟩
set_option maxRecDepth 100000 in
set_option maxHeartbeats 1000000 in
theorem Tryz.bp1_nil_in (F : Fence) (n : Nat) (h7 : F.fn 318) (hro : F.round = none) (l Bs : Nat) (ao : Option Addr) (cap : Nat) (J : List (Fin 0) → World → Prop) (W : World) (hBs : W.cell? ⟨Bs,0,none⟩ = some (.slice ao 0 cap)) (h0 : J [] W) :
 CallsIn F n Tryz.prog 318 #[.func (.yield l) #[] #[],.pointer (some ⟨Bs,0,none⟩)] W λe W'=>(∃ v,e = .returned v) ∧ J [] W':=by
 refine callsIn_of_wp Tryz.func318 rfl h7 ?_ hro
 simp only [Tryz.ntmps318,List.size_toArray,List.length_cons,List.length_nil,Nat.reduceAdd,Nat.reduceSub,Array.replicate_succ,Array.replicate_zero,List.push_toArray,List.append_toArray,List.nil_append,List.cons_append]
 gi_wp2
 gi_loopw [3] (λi wr=>i = .int .i64 (-1) ∧ J [] wr) (λ_ _=>0)
 case atStart=>exact ⟨rfl,h0⟩
 case round =>
  obtain ⟨rfl,hJs⟩:=hrel
  gi_wp2
  go_end0
  exact ⟨⟨_,rfl⟩,hJs⟩
set_option maxHeartbeats 1000000 in
theorem Tryz.bp_in (F : Fence) (n : Nat) (h5 : F.fn 303) (hro : F.round = none) (x : Slc) (w : World) :
 CallsIn F n Tryz.prog 303 #[slcV x] w λe w'=>e = .returned (.func (.func 318) #[] #[.pointer (some ⟨w.heap.size,0,none⟩)]) ∧ w' = w.alloc (.cells #[slcV x] 29):=by
 refine callsIn_of_wp Tryz.func303 rfl h5 ?_ hro
 obtain ⟨a,len,cap⟩:=x
 dsimp only [slcV]
 simp only [Tryz.ntmps303,List.size_toArray,List.length_cons,List.length_nil,Nat.reduceAdd,Nat.reduceSub,Array.replicate_succ,Array.replicate_zero,List.push_toArray,List.append_toArray,List.nil_append,List.cons_append]
 gi_wp2
 go_ret
 exact ⟨rfl,rfl⟩
theorem Tryz.bp_stops (F : Fence) (n : Nat) (h7 : F.fn 318) (hro : F.round = none) (hn : 1 ≤ n) (Bs n₀ : Nat) (x : Slc) (len : Nat) (zs : Fin len → Pnt) (hlen : len ≤ 1000000) (w : World) (hBs : Bs < w.heap.size) (hn₀ : n₀ ≤ w.heap.size) (hBn : Bs < n₀)
 (hc : w.cell? ⟨Bs,0,none⟩ = some (slcV x)) (hI : PntsV n₀ w x len zs) :
 SeqStopsK F n Tryz.prog 318 #[.pointer (some ⟨Bs,0,none⟩)] (λj : Fin len=>#[Value.int .i64 (j.1 : Int),pntV (zs j)]) (Below n₀) (λys=>ys = revF len len) (λpre=>∃ k,k ≤ len ∧ pre = revF len k) len w:=λl J Jx W hW _ _ hY h0=>by
 have hc':=(hW.cell (p:=⟨Bs,0,none⟩) hBs).trans hc
 obtain ⟨a,b,c⟩:=x
 obtain ⟨e,h⟩:=hI.below (hW.mono hn₀)
 have e : b = len:=e
 subst e
 rcases h with rfl | ⟨b',off,e1,hb,hcs⟩
 ·exact (Tryz.bp1_nil_in F n h7 hro l Bs a c J W hc' h0).mono λe W' ⟨he,hj⟩=>⟨he,.inl ⟨_,rfl,hj⟩⟩
 ·have e1 : a = some ⟨b',off,none⟩:=e1
  subst e1
  exact Tryz.bp1_in F n h7 hro hn l Bs n₀ b' off c b zs hlen hb J Jx hY W hc' hBn hcs h0
set_option maxRecDepth 100000 in
set_option maxHeartbeats 8000000 in
theorem Tryz.last_walk : LastWalk Tryz.prog 285 286 9 3 4 24 := by
 intro sv ov s t w R hL
 unfold lastBoxes at hL
 refine (callsIn_wide (n:=9)).1 ?_
 have hro : Fence.wide.round = none:=rfl
 have hL':=((callsIn_wide (n:=8)).2 hL).mono (R':=λe W0=>∃ v b,e = .returned (.tuple #[v,.bool b]) ∧ LaysR w s t 9 3 4 24 W0 ∧ (b = false → ∀ W',But (lastOwn w.heap.size) W0 W' → R (.returned lastBad) W') ∧
  (b = true → ∃ (x : Slc) (L : List (Slc × List Pnt)),v = slcV x ∧ LaysV W0 x L ∧ ∀ W',But (lastOwn w.heap.size) W0 W' → R (.returned (lastV (lastPs s t (L.map (·.2))))) W')) (by
   rintro e W0 ⟨hR,(⟨v,rfl,hRet⟩ | ⟨x,L,rfl,hV,hRet⟩)⟩
   ·exact ⟨v,false,rfl,hR,λ_=>hRet,λh=>by cases h⟩
   ·exact ⟨slcV x,true,rfl,hR,λh=>(by cases h),λ_=>⟨x,L,rfl,hV,hRet⟩⟩)
 clear hL
 refine callsIn_of_wp_marks Tryz.func285 rfl trivial ?_
 simp only [Tryz.ntmps285,List.size_toArray,List.length_cons,List.length_nil,Nat.reduceAdd,Nat.reduceSub,Array.replicate_succ,Array.replicate_zero,List.push_toArray,List.append_toArray,List.nil_append,List.cons_append]
 gi_wp2
 refine wpIn_wide.2 (wp_scope_straight ((wpIn_wide (n:=9)).1 ?_))
 gi_wp2_with (refine ⟨trivial,?_⟩; gi_at_call 286; refine hL'.mono ?_; rintro e W0 ⟨v,b,rfl,hR,hF,hT⟩; have B0 : Boxed W0 w.heap.size 9 (.string s):=hR.b0; have B1 : Boxed W0 (w.heap.size + 1) 3 (.int .i64 t):=hR.b1; have B2 : Boxed W0 (w.heap.size + 1 + 1) 3 (.int .i64 0):=hR.b2; have B3 : Boxed W0 (w.heap.size + 1 + 1 + 1) 4 (.bool false):=hR.b3; have B4 : Boxed W0 (w.heap.size + 1 + 1 + 1 + 1) 24 (.int .i64 0):=hR.b4; have c2:=B2.cell; have f2:=B2.frozen; have c3:=B3.cell; have f3:=B3.frozen; have c4:=B4.cell; have f4:=B4.frozen)
 ·have hb : b = false:=by
   have h : (!b) = true:=by assumption
   simpa using h
  obtain ⟨W',hW',b2,b3,b4,hBu,_⟩:=boxes_set B2 B3 B4 (.int .i64 0) (.bool false) (.int .i64 1500)
  rw [hW']
  refine ⟨lastBad,?_,hF hb _ hBu⟩
  have c2':=b2.cell
  have c3':=b3.cell
  have c4':=b4.cell
  simp [results,Tryz.f285,go_sem,c2',c3',c4',lastBad]
 ·have hb : b = true:=by
   have h : (!b) = false:=by assumption
   simpa using h
  subst hb
  obtain ⟨x,L,rfl,⟨hLn,hVs,hVp0⟩,hRet⟩:=hT rfl
  have hVp:=λy : Fin L.length=>hVp0 _ (List.get_mem L y)
  obtain ⟨Z,hZ⟩ : ∃ Z,L.get = Z:=⟨_,rfl⟩
  rw [hZ] at hVs hVp
  refine wpIn_label ?_
  gi_wp2_with (refine ⟨trivial,?_⟩; gi_at_call 302; refine (Tryz.bs_in Fence.wide 8 trivial rfl x W0).mono ?_; rintro e w' ⟨rfl,rfl⟩)
  obtain ⟨W1,hW1⟩ : ∃ W1,W0.alloc (.cells #[slcV x] 352) = W1:=⟨_,rfl⟩
  have hB1 : Below W0.heap.size W0 W1:=by rw [← hW1]; exact (Below.refl _ W0).alloc (Nat.le_refl _) _
  have hs1 : W1.heap.size = W0.heap.size + 1:=by rw [← hW1]; simp
  have bA : Boxed W1 W0.heap.size 352 (slcV x):=by rw [← hW1]; exact Boxed.new W0 _ _
  have hs0:=hR.size
  rw [hW1]
  refine wpIn_rangeFunc_ownH hro (by omega : 1 ≤ 9) (gf:=317) (lb:=#[.pointer (some ⟨W0.heap.size,0,none⟩)]) rfl trivial (enters_of Tryz.func317 (by kernel_rfl) rfl)
   (Tryz.bs_stops Fence.wide (9 - 1) trivial rfl (by omega) W0.heap.size W1.heap.size x L.length (λj=>(Z j).1) hLn W1 (by omega) (Nat.le_refl _) (by omega) bA.cell ((hVs.below hB1).mono (by omega))) belowK_t (belowK_b (by omega)) (Below.refl _ _) (λ_=>rfl)
   (λpre W=>(∀ j ∈ pre,lastP s t (Z j).2 = none) ∧ Below W1.heap.size W1 W)
   (λc pre W=>∃ v q y,(c = .ret ∧ pre = q ++ [y] ∧ (∀ j ∈ q,lastP s t (Z j).2 = none) ∧ lastP s t (Z y).2 = some v) ∧ FoundAt w.heap.size 3 4 24 v W ∧ But (lastOwn w.heap.size) W1 W)
   (OwnFrom.and (ownFrom_pure _ _) (ownFrom_below (Nat.le_refl _) (Nat.le_refl _)))
   (λc s' X Y row hs hg hr=>by obtain ⟨v,q,z,h1,h2,h3⟩:=hs; exact ⟨v,q,z,h1,found_own _ _ _ _ _ v X Y row h2 hg hr,ownFrom_but (Nat.le_refl _) () X Y row h3 hg hr⟩)
   ⟨by simp,Below.refl _ _⟩
   (λy a' _=>a' = { tmps:=#[sv,ov,.string s,.int .i64 t,undef,undef,.pointer (some ⟨w.heap.size,0,none⟩),.pointer (some ⟨w.heap.size + 1,0,none⟩),.pointer (some ⟨w.heap.size + 1 + 1,0,none⟩),.pointer (some ⟨w.heap.size + 1 + 1 + 1,0,none⟩),.pointer (some ⟨w.heap.size + 1 + 1 + 1 + 1,0,none⟩),slcV x,.bool true,undef,slcV (Z y).1,undef,undef,.tuple #[slcV x,.bool true],sv,ov,.tuple #[slcV x,.bool true],slcV x,.bool true,.bool true,.bool false,slcV x,.func (.func 317) #[] #[.pointer (some ⟨W0.heap.size,0,none⟩)],.int .i64 (y.1 : Int),slcV (Z y).1,undef,undef,undef,undef,undef,undef,undef,undef,undef,undef,undef,undef,undef,undef,undef,undef,undef],defers:=[] })
   (λ_ _ _ _ _ _ hs _ _=>hs)
   ?assign ?body ?done ?stop
  case assign =>
   rintro l pre y W K hi hK
   gi_wp2
   exact hK _ _ (KeepsFrom.refl _ _) (Below.refl _ _) hi rfl
  case body =>
   rintro l pre y a' W hl ⟨r,hr⟩ ⟨hp,hBW⟩ rfl hlt
   have hsW:=hBW.size
   gi_wp2_with (refine ⟨trivial,?_⟩; gi_at_call 303; refine (CallsIn.inRound l (Tryz.bp_in Fence.wide 6 trivial rfl _ _)).mono ?_; rintro e w' ⟨rfl,rfl⟩)
   have hr' : (W.alloc (.cells #[slcV (Z y).1] 29)).heap[l]? = some (.loop r):=(Below.heap_alloc W _ l (Array.getElem?_eq_some_iff.1 hr).1).trans hr
   have bN:=Boxed.new W 29 (slcV (Z y).1)
   obtain ⟨W2,hW2⟩ : ∃ W2,W.alloc (.cells #[slcV (Z y).1] 29) = W2:=⟨_,rfl⟩
   have hs2 : W2.heap.size = W.heap.size + 1:=by rw [← hW2]; simp
   have hB2 : Below W.heap.size W W2:=by rw [← hW2]; exact (Below.refl _ W).alloc (Nat.le_refl _) _
   have hK2 : KeepsFrom W1.heap.size W W2:=by rw [← hW2]; exact (KeepsOthers.alloc _ _).from _
   rw [hW2] at hr' bN ⊢
   obtain ⟨hpn,hPV0⟩:=hVp y
   have hB02 : Below W0.heap.size W0 W2:=(hB1.trans (hBW.mono (by omega))).trans (hB2.mono (by omega))
   obtain ⟨G,hG⟩ : ∃ G,(Z y).2.get = G:=⟨_,rfl⟩
   rw [hG] at hPV0
   have hPV:=(hPV0.below hB02).mono (show W0.heap.size ≤ W2.heap.size by omega)
   refine wpIn_rangeFunc_ownN (l₀:=l) (r₀:=r) rfl hr' (by omega) (gf:=318) (lb:=#[.pointer (some ⟨W.heap.size,0,none⟩)]) rfl trivial (enters_of Tryz.func318 (by kernel_rfl) rfl)
    ((Tryz.bp_stops Fence.wide 6 trivial rfl (by omega) W.heap.size W2.heap.size (Z y).1 (Z y).2.length G hpn W2 (by omega) (Nat.le_refl _) (by omega) bN.cell hPV).inRound l) belowK_t (belowK_b (by omega)) (Below.refl _ _) (λ_=>rfl)
    (λpre' W'=>(∀ j ∈ pre',hitP s t (G j) = false) ∧ (Below W2.heap.size W2 W' ∧ KeepsFrom W1.heap.size W W'))
    (λc pre' W'=>∃ v q z,(c = .ret ∧ pre' = q ++ [z] ∧ (∀ j ∈ q,hitP s t (G j) = false) ∧ hitP s t (G z) = true ∧ v = (G z).2.2) ∧ FoundAt w.heap.size 3 4 24 v W' ∧ (But (lastOwn w.heap.size) W1 W' ∧ KeepsFrom W1.heap.size W W'))
    (OwnFrom.and (ownFrom_pure _ _) (OwnFrom.and (ownFrom_below (Nat.le_refl _) (Nat.le_refl _)) (ownFrom_keepsFrom (by omega))))
    (λc s' X Y row hs hg hr=>by obtain ⟨v,q,z,h1,h2,h3⟩:=hs; exact ⟨v,q,z,h1,found_own _ _ _ _ _ v X Y row h2 hg hr,(OwnFrom.and (ownFrom_but (by omega)) (ownFrom_keepsFrom (by omega))) () X Y row h3 hg hr⟩)
    ⟨by simp,Below.refl _ _,hK2⟩
    (λz a'' W'=>∃ Bx,W2.heap.size ≤ Bx ∧ W'.heap[Bx]? = some (.cells #[.string (G z).1,.int .i64 (G z).2.1,.int .i64 (G z).2.2] 39 (0,0)) ∧ a'' = { tmps:=#[sv,ov,.string s,.int .i64 t,undef,undef,.pointer (some ⟨w.heap.size,0,none⟩),.pointer (some ⟨w.heap.size + 1,0,none⟩),.pointer (some ⟨w.heap.size + 1 + 1,0,none⟩),.pointer (some ⟨w.heap.size + 1 + 1 + 1,0,none⟩),.pointer (some ⟨w.heap.size + 1 + 1 + 1 + 1,0,none⟩),slcV x,.bool true,undef,slcV (Z y).1,undef,.pointer (some ⟨Bx,0,none⟩),.tuple #[slcV x,.bool true],sv,ov,.tuple #[slcV x,.bool true],slcV x,.bool true,.bool true,.bool false,slcV x,.func (.func 317) #[] #[.pointer (some ⟨W0.heap.size,0,none⟩)],.int .i64 (y.1 : Int),slcV (Z y).1,slcV (Z y).1,.func (.func 318) #[] #[.pointer (some ⟨W.heap.size,0,none⟩)],.int .i64 (z.1 : Int),pntV (G z),undef,undef,undef,undef,undef,undef,undef,undef,undef,undef,undef,undef,undef],defers:=[] })
    (λz a'' _ X Y row hs hg hr=>by obtain ⟨Bx,e1,e2,e3⟩:=hs; exact ⟨Bx,e1,cells_own Bx _ _ _ () X Y row e2 hg (λr e=>(hr r e).2),e3⟩)
    ?assign2 ?body2 ?done2 ?stop2
   case assign2 =>
    rintro l2 pre' z W' K ⟨hq,hBW',hKF⟩ hK
    obtain ⟨⟨z1,z2,z3⟩,hz⟩ : ∃ q,G z = q:=⟨_,rfl⟩
    rw [hz] at hK ⊢
    dsimp only [pntV] at hK ⊢
    gi_wp2
    refine hK _ _ ((KeepsOthers.alloc _ _).from _) ((Below.refl _ W').alloc hBW'.size _) ⟨hq,hBW'.alloc hBW'.size _,hKF.trans ((KeepsOthers.alloc _ _).from _)⟩ ⟨W'.heap.size,hBW'.size,World.alloc_heap_new W' _,rfl⟩
   case body2 =>
    rintro l2 pre' z a'' W' _ _ ⟨hq,hBW',hKF⟩ ⟨Bx,hBx,bX,rfl⟩ _
    have hB0W : Below W0.heap.size W0 W':=hB02.trans (hBW'.mono (by omega))
    have g0 : Boxed W' w.heap.size 9 (.string s):=(hB0W.block _ (by omega)).trans hR.b0
    have g1 : Boxed W' (w.heap.size + 1) 3 (.int .i64 t):=(hB0W.block _ (by omega)).trans hR.b1
    have g2 : Boxed W' (w.heap.size + 1 + 1) 3 (.int .i64 0):=(hB0W.block _ (by omega)).trans hR.b2
    have g3 : Boxed W' (w.heap.size + 1 + 1 + 1) 4 (.bool false):=(hB0W.block _ (by omega)).trans hR.b3
    have g4 : Boxed W' (w.heap.size + 1 + 1 + 1 + 1) 24 (.int .i64 0):=(hB0W.block _ (by omega)).trans hR.b4
    have k0:=g0.cell
    have k1:=g1.cell
    have k2:=g2.cell
    have k3:=g3.cell
    have k4:=g4.cell
    have l2:=g2.frozen
    have l3:=g3.frozen
    have l4:=g4.frozen
    have y0 : W'.cell? ⟨Bx,0,none⟩ = some (.string (G z).1):=by simp [World.cell?,bX]
    have y1 : W'.cell? ⟨Bx,1,none⟩ = some (.int .i64 (G z).2.1):=by simp [World.cell?,bX]
    have y2 : W'.cell? ⟨Bx,2,none⟩ = some (.int .i64 (G z).2.2):=by simp [World.cell?,bX]
    have no : hitP s t (G z) = false → ∀ j ∈ pre' ++ [z],hitP s t (G j) = false:=λh j hj=>(List.mem_append.1 hj).elim (hq j) λe=>by rw [List.mem_singleton.1 e]; exact h
    gi_wp2
    ·have h1 : ((G z).2.1 != t) = true:=by assumption
     refine ⟨KeepsFrom.refl _ _,Below.refl _ _,no ?_,hBW',hKF⟩
     have h2 : ¬ (G z).2.1 = t:=by simpa using h1
     simp [hitP,h2]
    ·have h1 : ((G z).2.1 != t) = false:=by assumption
     have h2 : (G z).2.1 = t:=by simpa using h1
     have h3 : (G z).1.toList = s.toList:=by assumption
     obtain ⟨X,hX,b2,b3,b4,hBu,hKO⟩:=boxes_set g2 g3 g4 (.int .i64 (G z).2.2) (.bool true) (.int .i64 0)
     rw [hX]
     exact ⟨hKO.from _,_,pre',z,⟨rfl,rfl,hq,by simp [hitP,h2,h3],rfl⟩,⟨b2,b3,b4⟩,(But.of_below ((hBW.mono (Nat.le_refl _)).trans ((hB2.mono hsW).trans (hBW'.mono (by omega))))).trans hBu,hKF.trans (hKO.from _)⟩
    ·have h1 : ¬ (G z).1.toList = s.toList:=by assumption
     refine ⟨KeepsFrom.refl _ _,Below.refl _ _,no ?_,hBW',hKF⟩
     simp [hitP,h1]
   case done2 =>
    rintro ys' W' rfl ⟨hq,hBW',hKF⟩
    have hn : lastP s t (Z y).2 = none:=by
     subst hG
     exact lastP_none hq
    gi_wp2
    exact ⟨hKF,(hB2.mono hsW).trans (hBW'.mono (by omega)),λj hj=>(List.mem_append.1 hj).elim (hp j) λe=>by rw [List.mem_singleton.1 e]; exact hn,hBW.trans ((hB2.mono hsW).trans (hBW'.mono (by omega)))⟩
   case stop2 =>
    rintro c pre' W' ⟨k,hk,rfl⟩ ⟨v,q,z,⟨rfl,e1,e2,e3,e4⟩,hF,hBu,hKF⟩
    have hn : lastP s t (Z y).2 = some v:=by
     subst hG
     rw [e4]
     exact lastP_some (revF_prefix _ _) e1 e2 e3
    gi_wp2
    exact ⟨hKF,v,pre,y,⟨rfl,rfl,hp,hn⟩,hF,hBu⟩
  case done =>
   rintro D ys W hD rfl ⟨hp,hBW⟩ hK
   have hB0W : Below W0.heap.size W0 W:=hB1.trans (hBW.mono (by omega))
   have g2 : Boxed W (w.heap.size + 1 + 1) 3 (.int .i64 0):=(hB0W.block _ (by omega)).trans hR.b2
   have g3 : Boxed W (w.heap.size + 1 + 1 + 1) 4 (.bool false):=(hB0W.block _ (by omega)).trans hR.b3
   have g4 : Boxed W (w.heap.size + 1 + 1 + 1 + 1) 24 (.int .i64 0):=(hB0W.block _ (by omega)).trans hR.b4
   have k2:=g2.cell
   have k3:=g3.cell
   have k4:=g4.cell
   have l2:=g2.frozen
   have l3:=g3.frozen
   have l4:=g4.frozen
   gi_wp2
   obtain ⟨W',hW',b2,b3,b4,hBu,hKO⟩:=boxes_set g2 g3 g4 (.int .i64 0) (.bool false) (.int .i64 0)
   rw [hW']
   have hK':=hKO.same D _ hK rfl
   refine ⟨by simp,.inl ⟨_,_,rfl,run_takeDeferred hK',?_⟩⟩
   have c2':=cell_kept b2.cell (grownBy_putObj' _ D (.deferred none)) (λr e=>by cases e; exact ⟨_,hK',rfl⟩)
   have c3':=cell_kept b3.cell (grownBy_putObj' _ D (.deferred none)) (λr e=>by cases e; exact ⟨_,hK',rfl⟩)
   have c4':=cell_kept b4.cell (grownBy_putObj' _ D (.deferred none)) (λr e=>by cases e; exact ⟨_,hK',rfl⟩)
   refine ⟨lastV none,by simp [results,Tryz.f285,go_sem,c2',c3',c4',lastV],?_⟩
   have hn : lastPs s t (L.map (·.2)) = none:=by
    subst hZ
    exact lastPs_none' hp
   rw [hn] at hRet
   exact hRet _ (((But.of_below hB0W).trans hBu).putObj (l:=D) (o0:=.deferred (some [])) (by omega) hK' rfl _)
  case stop =>
   rintro D c pre W hD ⟨k,hk,rfl⟩ ⟨v,q,z,⟨rfl,e1,e2,e3⟩,hF,hBu⟩ hK
   gi_wp2
   refine ⟨by simp,.inl ⟨_,_,rfl,run_takeDeferred hK,?_⟩⟩
   have c2':=cell_kept hF.1.cell (grownBy_putObj' _ D (.deferred none)) (λr e=>by cases e; exact ⟨_,hK,rfl⟩)
   have c3':=cell_kept hF.2.1.cell (grownBy_putObj' _ D (.deferred none)) (λr e=>by cases e; exact ⟨_,hK,rfl⟩)
   have c4':=cell_kept hF.2.2.cell (grownBy_putObj' _ D (.deferred none)) (λr e=>by cases e; exact ⟨_,hK,rfl⟩)
   refine ⟨lastV (some v),by simp [results,Tryz.f285,go_sem,c2',c3',c4',lastV],?_⟩
   have hn : lastPs s t (L.map (·.2)) = some v:=by
    subst hZ
    exact lastPs_some' (revF_prefix _ _) e1 e2 e3
   rw [hn] at hRet
   exact hRet _ (((But.of_below hB1).trans hBu).putObj (l:=D) (o0:=.deferred (some [])) (by omega) hK rfl _)
end Go.Proofs
