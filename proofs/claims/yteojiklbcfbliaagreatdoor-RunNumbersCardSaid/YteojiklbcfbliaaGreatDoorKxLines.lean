/-
  A part of the proof.
-/
import Derived.Test.YteojiklbcfbliaaGreatDoorKxBld
import Derived.Conc.SmallLaws
import Derived.Conc.EventLaws
import Derived.WalkKit
import Derived.WalkMore
import Derived.Scope
set_option linter.unusedVariables false
set_option linter.unusedSimpArgs false
noncomputable section
namespace Go.Kx
open Go Go.Conc Go.Proofs Go.RowKit
open Go.Kn
theorem wpN_scope {P : Program} {Q : Exit → Act → World → Prop} {a : Act} {w : World} {c : Code} (h : WpN P c (Exit.noGoto Q) a w) : WpN P (Code.scope c) Q a w:=by
 intro b k cs hb
 obtain ⟨e,a₁,w₁,hq,harr⟩:=h b (.inScope c :: k) cs hb
 cases e with
 | normal=>exact ⟨.normal,a₁,w₁,hq,.head step_scope (Steps.trans harr (.one step_inScope))⟩
 | exit id=>exact ⟨.exit id,a₁,w₁,hq,λk' hk=>.head step_scope (harr k' (by simp [exitTo,hk]))⟩
 | goto l=>exact hq.elim
 | ret=>exact ⟨_,a₁,w₁,hq,.of_steps (.one step_scope) harr⟩
 | panic ch=>exact ⟨_,a₁,w₁,hq,.of_steps (.one step_scope) harr⟩
 | outgrown=>exact ⟨_,a₁,w₁,hq,.of_steps (.one step_scope) harr⟩
theorem ops_sel_cons {P : Program} {Q : Exit → Act → World → Prop} {a : Act} {w : World} {ops : Array Oper} {i : Nat} {rest : List Nat} {o : Oper} {c cap s r : Nat} {x : Value} {xs : List Value} {closed : Bool} {z : Value} (ho : ops[i]? = some o) (hw : Region.wanted o (yielded ops a.tmps) = true)
 (hr : (execOp a.eval o).run P w = .ok (.comm #[rcase c z] false .select) w) (hc : w.heap[c]? = some (.chan cap (x :: xs).toArray closed s r false))
 (h : ∀ W,W = w.setChan c cap xs.toArray closed s (r + 1) false → OpsTo P ops Q rest (a.put o.dst (.tuple #[.int .i64 0,.bool true,x])) W) : OpsTo P ops Q (i :: rest) a w:=by
 have h2:=h _ rfl
 refine ops_sel_buf ho hw hr hc (by simp) ?_
 have e : (x :: xs).toArray.extract 1 (x :: xs).toArray.size = xs.toArray:=by simp
 rw [e]
 exact h2
theorem ops_two {P : Program} {Q : Exit → Act → World → Prop} {a : Act} {w : World} {ops : Array Oper} {k : Nat} {o1 o2 : Oper} (h1 : ops[k]? = some o1) (h2 : ops[k + 1]? = some o2) (h : wpList P ops Q [o1,o2] a w) : OpsTo P ops Q [k,k + 1] a w :=
 ops_rest [o1,o2] k (by
  intro j hj
  match j,hj with
  | 0,_=>exact h1
  | 1,_=>exact h2) h
theorem ops_one {P : Program} {Q : Exit → Act → World → Prop} {a : Act} {w : World} {ops : Array Oper} {k : Nat} {o1 : Oper} (h1 : ops[k]? = some o1) (h : wpList P ops Q [o1] a w) : OpsTo P ops Q [k] a w :=
 ops_rest [o1] k (by
  intro j hj
  match j,hj with
  | 0,_=>exact h1) h
structure Filled (w : World) (os : List ByteArray) (i : Nat) (W : World) : Prop where
 below : Below w.heap.size w W
 chan : ∃ s,W.heap[w.heap.size]? = some (.chan os.length ((os.take i).map Value.string).toArray false s 0 false)
def at11 (a : Act) : Nat:=match a.tmps[11]? with | some (Value.int _ k)=>k.toNat | _=>0
theorem run_close {P : Program} {W : World} {c cap s r : Nat} {buf : Array Value} {t : Array TypeId} {ty : TypeId} (h : W.heap[c]? = some (.chan cap buf false s r false)) : (Builtin.close_ t ty #[.chan (some c)]).run P W = .ok (.tuple #[]) (W.setChan c cap buf true s r false):=by
 rw [run_close_open t ty h]
 rfl
set_option maxHeartbeats 1000000 in
set_option maxRecDepth 100000 in
theorem lines_ok (os : List ByteArray) (hos : os.length ≤ 1000000) (A off cap : Nat) (w : World) (hA : A < w.heap.size) (hcell : ∀ (i : Nat) (h : i < os.length), w.cell? ⟨A, off + i, none⟩ = some (.string os[i])) :
 Calls Tryz.prog 25 #[.slice (some ⟨A,off,none⟩) os.length cap] w λe w'=>e = .returned (.chan (some w.heap.size)) ∧ Below w.heap.size w w' ∧ ∃ s,w'.heap[w.heap.size]? = some (.chan os.length (os.map Value.string).toArray true s 0 false):=by
 have hinfo9 : (Tryz.prog.info? 9).map (λi=>(i.zero,i.size,i.bytes)) = some (some (.string ByteArray.empty),1,16):=by kernel_rfl
 obtain ⟨i9,hi9,hz9,hs9,hb9⟩:=info_parts hinfo9
 have hmk : ∀ W,(Instr.makeChan 117 (.int .i64 (os.length : Nat))).run Tryz.prog W = .ok (.chan (some W.heap.size)) (W.alloc (.chan os.length #[] false 0 0 false)):=λW=>by
  have:=run_makeChan (P:=Tryz.prog) (w:=W) Tryz.underlying117 hi9 .i64 os.length (by omega) (by rw [hb9]; omega)
  simpa using this
 refine calls_of_wpN Tryz.func25 rfl ?_
 simp only [Tryz.ntmps25,List.size_toArray,List.length_cons,List.length_nil,Nat.reduceAdd,Nat.reduceSub,Array.replicate_succ,
  Array.replicate_zero,List.push_toArray,List.append_toArray,List.nil_append,List.cons_append]
 refine wpN_seq (of_wp ?_)
 go_wp2
 refine wpN_seq (of_wp ?_)
 go_wp2
 refine wpN_seq ?_
 refine wpN_seq (of_wp ?_)
 go_wp2
 have h0 : Filled w os 0 (w.alloc (.chan os.length #[] false 0 0 false)):=⟨(Below.refl _ w).alloc (Nat.le_refl _) _,0,heap_alloc_new w _⟩
 refine wpN_block (wpN_loop (λa W=>∃ (i : Nat) (u1 u4 u5 u6 u7 u8 u12 u13 u14 u15 u16 u17 u18 u19 : Value),i ≤ os.length ∧ Filled w os i W ∧ a = { tmps:=#[.slice (some ⟨A,off,none⟩) os.length cap,u1,.chan none,.chan (some w.heap.size),u4,u5,u6,u7,u8,.slice (some ⟨A,off,none⟩) os.length cap,.int .i64 (os.length : Nat),.int .i64 (i : Nat),u12,u13,u14,u15,u16,u17,u18,u19],defers:=[] }) (λa _=>os.length - at11 a) ?_ ?_)
 ·exact ⟨0,_,_,_,_,_,_,_,_,_,_,_,_,_,_,Nat.zero_le _,h0,rfl⟩
 ·rintro a W ⟨i,u1,u4,u5,u6,u7,u8,u12,u13,u14,u15,u16,u17,u18,u19,hi,hS,rfl⟩
  refine wpN_seq (of_wp ?_)
  go_wp2
  refine wpN_seq (of_wp ?_)
  go_wp2
  ·rename_i hlt
   have hi' : i < os.length:=by omega
   have hc:=(hS.below.cell hA).trans (hcell i hi')
   obtain ⟨hb,s,hch⟩:=hS
   have q2 : w.heap.size < W.heap.size:=(Array.getElem?_eq_some_iff.1 hch).1
   have hS3 : Filled w os (i + 1) (W.setChan w.heap.size os.length (((os.take i).map Value.string).toArray.push (.string os[i])) false (s + 1) 0 false):=by
    refine ⟨below_setChan hb (Nat.le_refl _) _ _ _ _ _ _,s + 1,?_⟩
    have e5 : (os.take (i + 1)).map Value.string = (os.take i).map Value.string ++ [.string os[i]]:=by rw [List.take_succ_eq_append_getElem hi',List.map_append]; rfl
    rw [heap_setChan _ _ _ _ _ _ _ _ q2,e5]
    simp only [List.push_toArray]
   clear h0 hmk
   generalize os[i] = oi at hc hS3
   refine wpN_seq (wpN_block ?_)
   refine wpN_seq (of_wp ?_)
   go_wp2
   refine wpN_cut 2 (by decide) ?_
   simp only [List.take_succ_cons,List.take_zero]
   go_wp2
   refine .inl ⟨rfl,?_⟩
   show OpsTo _ _ _ [2] _ _
   refine ops_send (v:=.string oi) (z:=.tuple #[]) rfl rfl (by simp [execOp,Act.eval,scase]) hch (by
    have h2:=List.length_take_le i os
    simp
    omega) (OpsTo.nil ?_)
   generalize W.setChan _ _ _ _ _ _ _ = W4 at hS3 ⊢
   refine of_wp ?_
   go_wp2
   exact ⟨⟨i + 1,_,_,_,_,_,_,_,_,_,_,_,_,_,_,by omega,hS3,rfl⟩,by simp [at11]; omega⟩
  ·have hi2 : i = os.length:=by omega
   subst hi2
   obtain ⟨hb,s,hch⟩:=hS
   rw [List.take_of_length_le (Nat.le_refl _)] at hch
   have q2 : w.heap.size < W.heap.size:=(Array.getElem?_eq_some_iff.1 hch).1
   have hcl:=λt ty=>run_close (P:=Tryz.prog) (t:=t) (ty:=ty) hch
   refine wpN_seq (of_wp ?_)
   go_wp2
   have hb5:=below_setChan hb (Nat.le_refl _) os.length (os.map Value.string).toArray true s 0 false
   have hc5:=heap_setChan W w.heap.size os.length (os.map Value.string).toArray true s 0 false q2
   generalize W.setChan _ _ _ _ _ _ _ = W5 at hb5 hc5 ⊢
   refine wpN_seq (of_wp ?_)
   go_wp2
   refine of_wp ?_
   go_wp2
   go_ret
   exact ⟨rfl,hb5,s,hc5⟩
end Go.Kx
