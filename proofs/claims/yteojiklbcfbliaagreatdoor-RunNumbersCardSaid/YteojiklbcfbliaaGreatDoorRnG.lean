/-
  run.Parse of "nodes 3" and a line of tick: walked.
-/
import Derived.Test.YteojiklbcfbliaaGreatDoorRnF
set_option linter.unusedVariables false
set_option linter.unusedSimpArgs false
noncomputable section
namespace Go.Ry
open Go Go.Conc Go.Proofs Go.RowKit Go.Kn Go.Kx
def at15 (a : Act) : Nat:=match a.tmps[15]? with | some (Value.int _ k)=>k.toNat | _=>0
def Parsed (w : World) (x : Int) (b : Bool) (e : Ending) (w' : World) : Prop:=Below w.heap.size w w' ∧
 (b = false ∧ e = .returned (.tuple #[.int .i64 0,.slice none 0 0,.int .i64 2,.int .i64 2600]) ∨ b = true ∧ ∃ g c,e = .returned (.tuple #[.int .i64 3,.slice (some ⟨g,0,none⟩) 1 c,.int .i64 0,.int .i64 0]) ∧ w'.cell? ⟨g,1,none⟩ = some (.int .i64 x))
theorem built (x : Int) : List.foldl (λ(cs : Array Value) (p : Value × Nat)=>cs.setIfInBounds p.snd p.fst) (actC 0 0).toArray (actC 3 x).zipIdx = (actC 3 x).toArray:=by
 unfold actC
 simp [List.zipIdx]
theorem built_cells (V : World) (x : Int) : ∀ (j : Nat) (u : Value),(actC 3 x)[j]? = some u → (V.alloc (.cells (List.foldl (λ(cs : Array Value) (p : Value × Nat)=>cs.setIfInBounds p.snd p.fst) (actC 0 0).toArray (actC 3 x).zipIdx) 37)).cell? ((⟨V.heap.size,0,none⟩ : Addr).add j) = some u:=by
 intro j u h
 rw [built,Addr.add_mid,Nat.zero_add,World.cell?_alloc_at (w:=V) _ _ _ _ rfl,List.getElem?_toArray]
 exact h
theorem actC_each (k x : Int) : ∀ u ∈ actC k x,u.oneCell' = true:=λu hu=>Array.all_eq_true_iff_forall_mem.1 (actC_one k x) u (by simpa using hu)
theorem own_act {w : World} {base : Nat} {v : Value} {k x : Int} (h : w.ownsRow base 37 24 v 1 (actC k x)) : ∃ g c,v = .slice (some ⟨g,0,none⟩) 1 c ∧ w.cell? ⟨g,1,none⟩ = some (.int .i64 x):=by
 rcases h.2 with ⟨_,h0⟩ | ⟨g,cap,cur,hv,_,hg,_,_,_,ht⟩
 ·cases h0
 ·refine ⟨g,cap,hv,?_⟩
  rw [blk_cell hg]
  have h2 : (cur.toList.take (1 * 24))[1]? = (actC k x)[1]?:=by rw [ht]
  rw [List.getElem?_take,if_pos (by decide),Array.getElem?_toList] at h2
  exact h2
theorem results_four {fn : Func} {a b c d : Tmp} (h : fn.results = #[.tmp a,.tmp b,.tmp c,.tmp d]) (tmps : Array Value) (P : Program) (w : World) :
 (results fn tmps).run P w = .ok (.tuple #[tmps.getD a undef,tmps.getD b undef,tmps.getD c undef,tmps.getD d undef]) w:=by
 simp only [results,h]
 simp [Sem.run_bind,Result.andThen]
set_option maxHeartbeats 1000000 in
set_option maxRecDepth 100000 in
theorem parse_tick (D : ByteArray) (x : Int) (b : Bool) (hD : (32 : UInt8) ∉ D.data.toList) (hD2 : (10 : UInt8) ∉ D.data.toList) (hs : D.size ≤ 100) (w : World) (hg : Gl w)
 (hn : ∀ W,Below w.heap.size w W → Calls Tryz.prog 11 #[.string D] W λe w'=>e = .returned (.tuple #[.int .i64 x,.bool b]) ∧ Below W.heap.size W w') :
 Calls Tryz.prog 5 #[.string (textT D)] w λe w'=>Parsed w x b e w':=by
 have hi37 : (Tryz.prog.info? 37).map (·.size) = some 24:=by kernel_rfl
 have hinfo37 : (Tryz.prog.info? 37).map (λi=>(i.zero,i.size,i.bytes)) = some (some (.agg (actC 0 0).toArray),24,248):=by kernel_rfl
 obtain ⟨i37,hj37,hz37,hs37,hb37⟩:=info_parts hinfo37
 have hsz : (textT D).size ≤ 200:=by rw [textT_size]; omega
 have k1:=λW (h : Below w.heap.size w W)=>cut_first D W hs (hg.on h)
 have k2:=λW (h : Below w.heap.size w W)=>cut_nodes W (hg.on h)
 have k3:=λW (h : Below w.heap.size w W)=>cut_tick D W hs hD2 (hg.on h)
 have k4:=λW (h : Below w.heap.size w W)=>number_three W (hg.on h).tab
 have k5:=λW (h : Below w.heap.size w W)=>act_tick D x b hD hs W (hg.on h) (λV hV=>hn V (h.trans (hV.mono h.size)))
 clear hn
 generalize textT D = T at hsz k1 ⊢
 refine calls_of_wpN Tryz.func5 rfl ?_
 simp only [Tryz.ntmps5,List.size_toArray,List.length_cons,List.length_nil,Nat.reduceAdd,Nat.reduceSub,Array.replicate_succ,
  Array.replicate_zero,List.push_toArray,List.append_toArray,List.nil_append,List.cons_append]
 refine wpN_seq (of_wp ?_)
 go_wp2
 refine wpN_seq (of_wp ?_)
 go_wp2
 refine wpN_seq (of_wp ?_)
 go_wp2_with (go_at_call 10; refine (k1 w (Below.refl _ _)).mono ?_; rintro e W1 ⟨rfl,hb1⟩)
 refine wpN_seq (of_wp ?_)
 go_wp2_with (go_at_call 10; refine (k2 W1 hb1).mono ?_; rintro e W2 ⟨rfl,hb2⟩)
 replace hb2:=hb1.trans (hb2.mono hb1.size)
 refine wpN_seq (of_wp ?_)
 go_wp2_with (go_at_call 11; refine (k4 W2 hb2).mono ?_; rintro e W3 ⟨rfl,hb3⟩)
 replace hb3:=hb2.trans (hb3.mono hb2.size)
 clear hb1 hb2 k1 k2 k4
 refine wpN_seq (of_wp ?_)
 go_wp2
 refine wpN_seq (of_wp ?_)
 go_wp2
 refine wpN_seq ?_
 refine wpN_seq (of_wp ?_)
 go_wp2
 refine wpN_block (wpN_loop (λa W=>∃ (l : Nat) (r : ByteArray) (v : Value) (u1 u6 u8 u9 u10 u11 u13 u16 u17 u18 u19 u20 u21 u22 u23 u24 u25 u26 u27 u28 u29 u30 u31 u32 u33 u34 u35 u36 u37 u38 u39 u40 u41 u42 u43 u44 u45 u46 u47 u48 u49 u50 u51 u52 u53 u54 u55 u56 u57 u58 u59 u60 u61 u62 u63 u64 u65 u66 u67 u68 u69 u70 u71 u72 u73 : Value),(l = 2 ∧ r = tickT D ∧ v = .slice none 0 0 ∧ Below w.heap.size w W ∨ l = 3 ∧ b = true ∧ r = ⟨#[]⟩ ∧ Below w.heap.size w W ∧ ∃ g c,v = .slice (some ⟨g,0,none⟩) 1 c ∧ W.cell? ⟨g,1,none⟩ = some (.int .i64 x)) ∧ a = ⟨#[.string T,u1,.int .i64 0,.slice none 0 0,.int .i64 0,.int .i64 0,u6,.string r,u8,u9,u10,u11,.int .i64 3,u13,v,.int .i64 (l : Nat),u16,u17,u18,u19,u20,u21,u22,u23,u24,u25,u26,u27,u28,u29,u30,u31,u32,u33,u34,u35,u36,u37,u38,u39,u40,u41,u42,u43,u44,u45,u46,u47,u48,u49,u50,u51,u52,u53,u54,u55,u56,u57,u58,u59,u60,u61,u62,u63,u64,u65,u66,u67,u68,u69,u70,u71,u72,u73],[]⟩) (λa _=>4 - at15 a) ?_ ?_)
 ·exact ⟨2,_,_,_,_,_,_,_,_,_,_,_,_,_,_,_,_,_,_,_,_,_,_,_,_,_,_,_,_,_,_,_,_,_,_,_,_,_,_,_,_,_,_,_,_,_,_,_,_,_,_,_,_,_,_,_,_,_,_,_,_,_,_,_,_,_,_,_,.inl ⟨rfl,rfl,rfl,hb3⟩,rfl⟩
 ·clear hb3
  rintro a W ⟨l,r,v,u1,u6,u8,u9,u10,u11,u13,u16,u17,u18,u19,u20,u21,u22,u23,u24,u25,u26,u27,u28,u29,u30,u31,u32,u33,u34,u35,u36,u37,u38,u39,u40,u41,u42,u43,u44,u45,u46,u47,u48,u49,u50,u51,u52,u53,u54,u55,u56,u57,u58,u59,u60,u61,u62,u63,u64,u65,u66,u67,u68,u69,u70,u71,u72,u73,hl,rfl⟩
  rcases hl with ⟨rfl,rfl,rfl,hb⟩ | ⟨rfl,hbt,rfl,hb,g,c,rfl,hgc⟩
  ·have hne : (tickT D).toList.isEmpty = false:=by
    rw [ByteArray.toList_eq,tickT_list]
    rfl
   refine wpN_seq (wpN_seq (of_wp ?_))
   go_wp2
   refine of_wp ?_
   go_wp2
   refine wpN_seq (wpN_block ?_)
   refine wpN_seq (of_wp ?_)
   go_wp2
   refine wpN_seq (of_wp ?_)
   go_wp2_with (go_at_call 10; refine (k3 W hb).mono ?_; rintro e W3 ⟨rfl,hb3⟩)
   replace hb3:=hb.trans (hb3.mono hb.size)
   clear k3 hb
   have k6:=k5 W3 hb3
   clear k5
   cases b with
   | false =>
    rw [if_neg (by simp)] at k6
    refine wpN_seq (of_wp ?_)
    go_wp2_with (first | (go_at_call 12; refine k6.mono ?_; rintro e W4 ⟨rfl,hb4⟩; replace hb4:=hb3.trans (hb4.mono hb3.size); clear k6 hb3) | (refine wpList_store_mid rfl 37 (.tmp 17) (.tmp 58) rfl W4.heap.size 0 (actC 0 0).toArray rfl rfl ?ht hi37 (actC_one 0 0) ?_; case ht=>exact act_there W4 0 0))
    have hb5:=setCells_below hb4 W4.heap.size hb4.size (actC 0 0) 0 _ (hb4.alloc hb4.size (.cells (actC 0 0).toArray 37))
    refine (λ(h : ∀ V,Below w.heap.size w V → WpN Tryz.prog _ _ _ V)=>h _ hb5) ?_
    clear hb5 hb4
    intro V hV
    refine wpN_seq (wpN_seq (of_wp ?_))
    go_wp2
    refine of_wp ?_
    go_wp2
    exact bodyPost_ret (results_four rfl _ _ _) rfl ⟨hV,.inl ⟨rfl,rfl⟩⟩
   | true =>
    rw [if_pos rfl] at k6
    refine wpN_seq (of_wp ?_)
    go_wp2_with (first | (go_at_call 12; refine k6.mono ?_; rintro e W4 ⟨rfl,hb4⟩; replace hb4:=hb3.trans (hb4.mono hb3.size); clear k6 hb3) | (refine wpList_store_mid rfl 37 (.tmp 17) (.tmp 58) rfl W4.heap.size 0 (actC 3 x).toArray rfl rfl ?ht hi37 (actC_one 3 x) ?_; case ht=>exact act_there W4 3 x))
    have hb5:=setCells_below hb4 W4.heap.size hb4.size (actC 3 x) 0 _ (hb4.alloc hb4.size (.cells (actC 0 0).toArray 37))
    have hr5:=act_range W4 3 x
    generalize W4.heap.size = B at hb5 hr5 ⊢
    refine (λ(h : ∀ V,Below w.heap.size w V → V.rangeAt B 0 (actC 3 x) → WpN Tryz.prog _ _ _ V)=>h _ hb5 hr5) ?_
    clear hb5 hb4 hr5
    intro V hV hr
    refine wpN_seq (wpN_seq (of_wp ?_))
    go_wp2
    refine of_wp ?_
    go_wp2
    refine of_wp ?_
    have hlen : (actC 3 x).length = 24:=rfl
    go_wp2_with (first | (refine wpList_load_mid (op := { dst := some 69, op := .load 37 (.tmp 17), type := 37, pos := "run.go:160", after := #[], guard := none }) rfl 37 (.tmp 17) rfl B 0 rfl (actC 3 x) _ ?hc Tryz.underlying37 rfl hi37 ?_; case hc => exact hr) | (at_builtin; go_loud (refine wpList_append_own _ rfl _ _ 23 rfl w.heap.size 37 i37 (.agg (actC 0 0).toArray) 24 248 Tryz.underlying23 hj37 hz37 hs37 hb37 rfl (by decide) _ 0 [] rfl ⟨rfl, .inl ⟨rfl, rfl⟩⟩ ⟨V.heap.size, 0, none⟩ 1 1 (actC 3 x) rfl rfl ?c1 ?c2 ?c3 ?c4 ?c5 ?_)))
    case c1=>exact built_cells V x
    case c2=>exact actC_each 3 x
    case c3=>unfold maxLen; omega
    case c4=>omega
    case c5=>exact Nat.le_trans hV.size (by show V.heap.size ≤ (V.heap.push _).size; rw [Array.size_push]; omega)
    intro v' W6 hown' hgrow _
    have hb6 : Below w.heap.size w W6:=(hV.alloc hV.size _).grown hgrow (Nat.le_trans hV.size (by show V.heap.size ≤ (V.heap.push _).size; rw [Array.size_push]; omega)) (λk hk=>by cases hk)
    obtain ⟨g,c,rfl,hgc⟩:=own_act hown'
    clear hgrow hown' hr hV hlen
    go_wp2
    refine of_wp ?_
    go_wp2
    exact ⟨⟨3,_,_,_,_,_,_,_,_,_,_,_,_,_,_,_,_,_,_,_,_,_,_,_,_,_,_,_,_,_,_,_,_,_,_,_,_,_,_,_,_,_,_,_,_,_,_,_,_,_,_,_,_,_,_,_,_,_,_,_,_,_,_,_,_,_,_,_,.inr ⟨rfl,trivial,rfl,hb6,g,c,rfl,hgc⟩,rfl⟩,by simp [at15]⟩
  ·refine wpN_seq (wpN_seq (of_wp ?_))
   go_wp2
   refine of_wp ?_
   go_wp2
   refine wpN_seq (of_wp ?_)
   go_wp2
   refine of_wp ?_
   go_wp2
   exact bodyPost_ret (results_four rfl _ _ _) rfl ⟨hb,.inr ⟨hbt,g,c,rfl,hgc⟩⟩
end Go.Ry
